/- Printed by gen.py: for each Go function a pure function, and that the Go code comes to it. No condition beside the equation that says what the pure function gives. -/
import Derived.Test.YteinpdignnpbgaaL3a
import Derived.Test.YteinpdignnpbgaaF5
set_option linter.unusedVariables false
set_option linter.unusedSimpArgs false
namespace Gk
open Go Go.Proofs

/-! largesse/largesselaw03.PolyLong -/
noncomputable def law03_PolyLong (a0n : Int) (a1m : Int) : Option Bool :=
((law03_lives ).bind fun r1 =>
(if (!r1) = true then some false
else
((((makeL ((wI (1 + (wI ((((UInt64.ofInt a0n) % (256 : UInt64))).toNat : Int))))) (0 : UInt8)).bind fun c7 =>
((makeL ((wI (1 + (wI ((((UInt64.ofInt a1m) % (256 : UInt64))).toNat : Int))))) (0 : UInt8)).bind fun c8 => some (c7, c8)))).bind fun x4 =>
((idx x4.1 ((wI ((wI (1 + (wI ((((UInt64.ofInt a0n) % (256 : UInt64))).toNat : Int)))) - 1)))).bind fun c17 =>
((idx x4.2 ((wI ((wI (1 + (wI ((((UInt64.ofInt a1m) % (256 : UInt64))).toNat : Int)))) - 1)))).bind fun c20 =>
((field_New ).bind fun r23 =>
((poly_Mul r23 (x4.1.set ((wI ((wI (1 + (wI ((((UInt64.ofInt a0n) % (256 : UInt64))).toNat : Int)))) - 1)) : Int).toNat ((1 : UInt8))) (x4.2.set ((wI ((wI (1 + (wI ((((UInt64.ofInt a1m) % (256 : UInt64))).toNat : Int)))) - 1)) : Int).toNat ((1 : UInt8)))).bind fun r25 =>
(if 256 < (wI ((wI ((wI (1 + (wI ((((UInt64.ofInt a0n) % (256 : UInt64))).toNat : Int)))) + (wI (1 + (wI ((((UInt64.ofInt a1m) % (256 : UInt64))).toNat : Int)))))) - 1)) then
(if r25.2 = 4 then
(if (r25.1.length : Int) = 0 then
(if (wI ((wI ((wI (1 + (wI ((((UInt64.ofInt a0n) % (256 : UInt64))).toNat : Int)))) + (wI (1 + (wI ((((UInt64.ofInt a1m) % (256 : UInt64))).toNat : Int)))))) - 1)) ≤ 256 then
(if r25.2 = 0 then
((poly_Degree r25.1).bind fun r32 =>
(if r32 = (wI ((wI ((wI (1 + (wI ((((UInt64.ofInt a0n) % (256 : UInt64))).toNat : Int)))) + (wI (1 + (wI ((((UInt64.ofInt a1m) % (256 : UInt64))).toNat : Int)))))) - 2)) then
((makeL 255 (0 : UInt8)).bind fun c35 =>
((iterC (fun s40 : List UInt8 × Int =>
(if s40.2 < (c35.length : Int) then
((idx s40.1 s40.2).bind fun c43 => some (.inl ((s40.1.set (s40.2 : Int).toNat ((UInt8.ofInt s40.2))), (wI (s40.2 + 1)))))
else some (.inr s40.1))) (c35, 0)).bind fun x40 =>
((poly_Vanish r23 x40).bind fun r48 =>
((appL x40 (([(255 : UInt8)] : List UInt8))).bind fun c52 =>
((poly_Vanish r23 c52).bind fun r57 =>
((poly_Through false ([(1 : UInt8)] : List UInt8) ([(1 : UInt8)] : List UInt8)).bind fun r63 =>
((poly_Weights false ([] : List UInt8) (1 : UInt8)).bind fun r65 =>
((poly_Mul false (x4.1.set ((wI ((wI (1 + (wI ((((UInt64.ofInt a0n) % (256 : UInt64))).toNat : Int)))) - 1)) : Int).toNat ((1 : UInt8))) (x4.2.set ((wI ((wI (1 + (wI ((((UInt64.ofInt a1m) % (256 : UInt64))).toNat : Int)))) - 1)) : Int).toNat ((1 : UInt8)))).bind fun r67 =>
((poly_DivMod false (x4.1.set ((wI ((wI (1 + (wI ((((UInt64.ofInt a0n) % (256 : UInt64))).toNat : Int)))) - 1)) : Int).toNat ((1 : UInt8))) (x4.2.set ((wI ((wI (1 + (wI ((((UInt64.ofInt a1m) % (256 : UInt64))).toNat : Int)))) - 1)) : Int).toNat ((1 : UInt8)))).bind fun r69 =>
(if r48.2 = 0 then
(if (r48.1.length : Int) = 256 then
(if r57.2 = 4 then
(if r63.2 = 1 then
(if r65.2 = 1 then
(if r67.2 = 1 then some (decide (r69.2.2 = 1))
else some false)
else some false)
else some false)
else some false)
else some false)
else some false))))))))))
else some false))
else some false)
else
((makeL 255 (0 : UInt8)).bind fun c78 =>
((iterC (fun s83 : List UInt8 × Int =>
(if s83.2 < (c78.length : Int) then
((idx s83.1 s83.2).bind fun c86 => some (.inl ((s83.1.set (s83.2 : Int).toNat ((UInt8.ofInt s83.2))), (wI (s83.2 + 1)))))
else some (.inr s83.1))) (c78, 0)).bind fun x83 =>
((poly_Vanish r23 x83).bind fun r91 =>
((appL x83 (([(255 : UInt8)] : List UInt8))).bind fun c95 =>
((poly_Vanish r23 c95).bind fun r100 =>
((poly_Through false ([(1 : UInt8)] : List UInt8) ([(1 : UInt8)] : List UInt8)).bind fun r106 =>
((poly_Weights false ([] : List UInt8) (1 : UInt8)).bind fun r108 =>
((poly_Mul false (x4.1.set ((wI ((wI (1 + (wI ((((UInt64.ofInt a0n) % (256 : UInt64))).toNat : Int)))) - 1)) : Int).toNat ((1 : UInt8))) (x4.2.set ((wI ((wI (1 + (wI ((((UInt64.ofInt a1m) % (256 : UInt64))).toNat : Int)))) - 1)) : Int).toNat ((1 : UInt8)))).bind fun r110 =>
((poly_DivMod false (x4.1.set ((wI ((wI (1 + (wI ((((UInt64.ofInt a0n) % (256 : UInt64))).toNat : Int)))) - 1)) : Int).toNat ((1 : UInt8))) (x4.2.set ((wI ((wI (1 + (wI ((((UInt64.ofInt a1m) % (256 : UInt64))).toNat : Int)))) - 1)) : Int).toNat ((1 : UInt8)))).bind fun r112 =>
(if r91.2 = 0 then
(if (r91.1.length : Int) = 256 then
(if r100.2 = 4 then
(if r106.2 = 1 then
(if r108.2 = 1 then
(if r110.2 = 1 then some (decide (r112.2.2 = 1))
else some false)
else some false)
else some false)
else some false)
else some false)
else some false)))))))))))
else some false)
else some false)
else
(if (wI ((wI ((wI (1 + (wI ((((UInt64.ofInt a0n) % (256 : UInt64))).toNat : Int)))) + (wI (1 + (wI ((((UInt64.ofInt a1m) % (256 : UInt64))).toNat : Int)))))) - 1)) ≤ 256 then
(if r25.2 = 0 then
((poly_Degree r25.1).bind fun r123 =>
(if r123 = (wI ((wI ((wI (1 + (wI ((((UInt64.ofInt a0n) % (256 : UInt64))).toNat : Int)))) + (wI (1 + (wI ((((UInt64.ofInt a1m) % (256 : UInt64))).toNat : Int)))))) - 2)) then
((makeL 255 (0 : UInt8)).bind fun c126 =>
((iterC (fun s131 : List UInt8 × Int =>
(if s131.2 < (c126.length : Int) then
((idx s131.1 s131.2).bind fun c134 => some (.inl ((s131.1.set (s131.2 : Int).toNat ((UInt8.ofInt s131.2))), (wI (s131.2 + 1)))))
else some (.inr s131.1))) (c126, 0)).bind fun x131 =>
((poly_Vanish r23 x131).bind fun r139 =>
((appL x131 (([(255 : UInt8)] : List UInt8))).bind fun c143 =>
((poly_Vanish r23 c143).bind fun r148 =>
((poly_Through false ([(1 : UInt8)] : List UInt8) ([(1 : UInt8)] : List UInt8)).bind fun r154 =>
((poly_Weights false ([] : List UInt8) (1 : UInt8)).bind fun r156 =>
((poly_Mul false (x4.1.set ((wI ((wI (1 + (wI ((((UInt64.ofInt a0n) % (256 : UInt64))).toNat : Int)))) - 1)) : Int).toNat ((1 : UInt8))) (x4.2.set ((wI ((wI (1 + (wI ((((UInt64.ofInt a1m) % (256 : UInt64))).toNat : Int)))) - 1)) : Int).toNat ((1 : UInt8)))).bind fun r158 =>
((poly_DivMod false (x4.1.set ((wI ((wI (1 + (wI ((((UInt64.ofInt a0n) % (256 : UInt64))).toNat : Int)))) - 1)) : Int).toNat ((1 : UInt8))) (x4.2.set ((wI ((wI (1 + (wI ((((UInt64.ofInt a1m) % (256 : UInt64))).toNat : Int)))) - 1)) : Int).toNat ((1 : UInt8)))).bind fun r160 =>
(if r139.2 = 0 then
(if (r139.1.length : Int) = 256 then
(if r148.2 = 4 then
(if r154.2 = 1 then
(if r156.2 = 1 then
(if r158.2 = 1 then some (decide (r160.2.2 = 1))
else some false)
else some false)
else some false)
else some false)
else some false)
else some false))))))))))
else some false))
else some false)
else
((makeL 255 (0 : UInt8)).bind fun c169 =>
((iterC (fun s174 : List UInt8 × Int =>
(if s174.2 < (c169.length : Int) then
((idx s174.1 s174.2).bind fun c177 => some (.inl ((s174.1.set (s174.2 : Int).toNat ((UInt8.ofInt s174.2))), (wI (s174.2 + 1)))))
else some (.inr s174.1))) (c169, 0)).bind fun x174 =>
((poly_Vanish r23 x174).bind fun r182 =>
((appL x174 (([(255 : UInt8)] : List UInt8))).bind fun c186 =>
((poly_Vanish r23 c186).bind fun r191 =>
((poly_Through false ([(1 : UInt8)] : List UInt8) ([(1 : UInt8)] : List UInt8)).bind fun r197 =>
((poly_Weights false ([] : List UInt8) (1 : UInt8)).bind fun r199 =>
((poly_Mul false (x4.1.set ((wI ((wI (1 + (wI ((((UInt64.ofInt a0n) % (256 : UInt64))).toNat : Int)))) - 1)) : Int).toNat ((1 : UInt8))) (x4.2.set ((wI ((wI (1 + (wI ((((UInt64.ofInt a1m) % (256 : UInt64))).toNat : Int)))) - 1)) : Int).toNat ((1 : UInt8)))).bind fun r201 =>
((poly_DivMod false (x4.1.set ((wI ((wI (1 + (wI ((((UInt64.ofInt a0n) % (256 : UInt64))).toNat : Int)))) - 1)) : Int).toNat ((1 : UInt8))) (x4.2.set ((wI ((wI (1 + (wI ((((UInt64.ofInt a1m) % (256 : UInt64))).toNat : Int)))) - 1)) : Int).toNat ((1 : UInt8)))).bind fun r203 =>
(if r182.2 = 0 then
(if (r182.1.length : Int) = 256 then
(if r191.2 = 4 then
(if r197.2 = 1 then
(if r199.2 = 1 then
(if r201.2 = 1 then some (decide (r203.2.2 = 1))
else some false)
else some false)
else some false)
else some false)
else some false)
else some false)))))))))))))))))))
set_option maxRecDepth 100000 in
set_option maxHeartbeats 8000000 in
theorem law03_PolyLong_calls (a0n : Int) (a1m : Int) (r : Bool) (w0 : World) (H : law03_PolyLong a0n a1m = some r) :
    Calls Try.prog 8 [(i64 a0n), (i64 a1m)].toArray w0 (fun e w' => e = .returned (.bool r) ∧ Ext w0 w') := by
  have hE : Ext w0 w0 := Ext.refl w0
  unfold law03_PolyLong at H
  refine calls_W (n := 167) Try.func8 rfl rfl rfl ?_
  refine W_seq ?_
  refine W_reg (by kernel_rfl) ?_
  refine wla rfl rfl (q_assign (v := (.bool false)) rfl rfl) ?_
  refine wl_nil ?_
  refine W_th ?_
  refine W_seq ?_
  refine W_seq ?_
  refine W_reg (by kernel_rfl) ?_
  obtain ⟨r1, hr1, H⟩ := Option.bind_eq_some_iff.1 H
  refine wls rfl rfl (stp_call (vs := []) Try.func17 rfl rfl rfl (ar0 ) (law03_lives_calls   r1 _  hr1) ?_)
  rintro _ w1 ⟨rfl, x1⟩
  refine ⟨_, rfl, ?_⟩
  have e2 := hE.trans x1
  refine wla rfl rfl (q_not rfl rfl) ?_
  refine wl_nil ?_
  refine W_th ?_
  refine W_cond _ rfl rfl (fun hb3 => ?_) (fun hb3 => ?_)
  · replace H := (if_pos hb3).symm.trans H
    refine W_seq ?_
    refine W_reg (by kernel_rfl) ?_
    refine wla rfl rfl (q_assign (v := (.bool false)) rfl rfl) ?_
    refine wl_nil ?_
    refine W_th ?_
    refine W_ret ?_
    refine th_r ?_
    obtain rfl := Option.some.inj H
    refine rt1 (.bool false) rfl rfl rfl rfl ?_
    exact ⟨rfl, e2⟩
  · replace H := (if_neg (ne_true_of_eq_false hb3)).symm.trans H
    refine W_skip ?_
    refine W_th ?_
    refine W_seq ?_
    refine W_reg (by kernel_rfl) ?_
    refine wla rfl rfl (q_move (v := (i64 a0n)) rfl rfl) ?_
    refine wla rfl rfl (q_cvt64I rfl rfl rfl rfl) ?_
    refine wla rfl rfl (q_rem64 rfl rfl (cst64 (256 : UInt64) rfl) (by decide)) ?_
    refine wla rfl rfl (q_cvtI64 rfl rfl rfl rfl) ?_
    refine wla rfl rfl (q_addI rfl rfl rfl) ?_
    refine wla rfl rfl (q_move (v := (i64 a1m)) rfl rfl) ?_
    refine wla rfl rfl (q_cvt64I rfl rfl rfl rfl) ?_
    refine wla rfl rfl (q_rem64 rfl rfl (cst64 (256 : UInt64) rfl) (by decide)) ?_
    refine wla rfl rfl (q_cvtI64 rfl rfl rfl rfl) ?_
    refine wla rfl rfl (q_addI rfl rfl rfl) ?_
    refine wla rfl rfl (q_assign (v := (i64 ((wI (1 + (wI ((((UInt64.ofInt a0n) % (256 : UInt64))).toNat : Int))))))) rfl rfl) ?_
    refine wla rfl rfl (q_assign (v := (i64 ((wI (1 + (wI ((((UInt64.ofInt a1m) % (256 : UInt64))).toNat : Int))))))) rfl rfl) ?_
    refine wl_nil ?_
    refine W_th ?_
    refine W_seq ?_
    obtain ⟨x4, H4, H⟩ := Option.bind_eq_some_iff.1 H
    refine W_mid (fun f w => ∃ v5_212 : Value, ∃ v6_212 : Value, f 0 = (i64 ((wI (1 + (wI ((((UInt64.ofInt a0n) % (256 : UInt64))).toNat : Int)))))) ∧ f 1 = (i64 ((wI (1 + (wI ((((UInt64.ofInt a1m) % (256 : UInt64))).toNat : Int)))))) ∧ f 5 = v5_212 ∧ f 6 = v6_212 ∧ f 167 = undef ∧ Ext w0 w ∧ OwK (Sc u8) w [v5_212, v6_212] 5 v5_212 x4.1 ∧ Nw w0 v5_212 ∧ OwK (Sc u8) w [v5_212, v6_212] 5 v6_212 x4.2 ∧ Nw w0 v6_212 ∧ Nq v5_212 v6_212) ?_ ?_
    · refine W_draw2 [] [(0, 0), (2, 0)] 1 3 [(4, 0), (3, 2), (5, 0)] [(1, 2), (4, 0), (5, 0)] mixed (by kernel_rfl) (by kernel_rfl) (by kernel_rfl) (by kernel_rfl) ?_
      have x5 := Ext.drew w1
      have e6 := e2.trans x5
      refine wsa rfl rfl rfl (q_move (v := (i64 ((wI (1 + (wI ((((UInt64.ofInt a0n) % (256 : UInt64))).toNat : Int))))))) rfl rfl) ?_
      refine wsa rfl rfl rfl (q_move (v := (i64 ((wI (1 + (wI ((((UInt64.ofInt a1m) % (256 : UInt64))).toNat : Int))))))) rfl rfl) ?_
      obtain ⟨c7, hc7, H4⟩ := Option.bind_eq_some_iff.1 H4
      obtain ⟨c8, hc8, H4⟩ := Option.bind_eq_some_iff.1 H4
      refine ws_nil ⟨?_, ?_⟩
      · refine wsc rfl (by kernel_rfl) rfl rfl (stp_make (L := []) (R := (Sc u8)) rfl T22 rfl rfl hc7 (fun _ _ => rfl) ?_)
        intro v9 w9 o9 n9 g9 l9
        have x9 := grown_ext g9
        have n11 := Nw.ext e6 n9
        have e10 := e6.trans x9
        refine wsa rfl rfl rfl (q_assign (v := v9) rfl rfl) ?_
        refine wsc rfl (by kernel_rfl) rfl rfl (stp_make (L := [v9]) (R := (Sc u8)) rfl T22 rfl rfl hc8 (fun _ _ => rfl) ?_)
        intro v12 w12 o12 n12 g12 l12
        have x12 := grown_ext g12
        have q13 : Nq v9 v12 := o9.nq n12
        replace o9 := o9.extL (Sc.stab _) x12 (Lift.call _ x12 n12)
        have n15 := Nw.ext e10 n12
        have e14 := e10.trans x12
        refine wsa rfl rfl rfl (q_assign (v := v12) rfl rfl) ?_
        refine ws_nil ?_
        obtain rfl := Option.some.inj H4
        exact ⟨v9, v12, rfl, rfl, rfl, rfl, rfl, e14, (o9.weak (Sc.stab _) (fun _ h => ⟨h.2.1, h.1, trivial⟩)), n11, (o12.weak (Sc.stab _) (fun _ h => ⟨h.2.1, h.1, trivial⟩)), n15, q13⟩
      · refine wsc rfl (by kernel_rfl) rfl rfl (stp_make (L := []) (R := (Sc u8)) rfl T22 rfl rfl hc8 (fun _ _ => rfl) ?_)
        intro v9 w9 o9 n9 g9 l9
        have x9 := grown_ext g9
        have n11 := Nw.ext e6 n9
        have e10 := e6.trans x9
        refine wsc rfl (by kernel_rfl) rfl rfl (stp_make (L := [v9]) (R := (Sc u8)) rfl T22 rfl rfl hc7 (fun _ _ => rfl) ?_)
        intro v12 w12 o12 n12 g12 l12
        have x12 := grown_ext g12
        have q13 : Nq v9 v12 := o9.nq n12
        replace o9 := o9.extL (Sc.stab _) x12 (Lift.call _ x12 n12)
        have n15 := Nw.ext e10 n12
        have e14 := e10.trans x12
        refine wsa rfl rfl rfl (q_assign (v := v12) rfl rfl) ?_
        refine wsa rfl rfl rfl (q_assign (v := v9) rfl rfl) ?_
        refine ws_nil ?_
        obtain rfl := Option.some.inj H4
        exact ⟨v12, v9, rfl, rfl, rfl, rfl, rfl, e14, o12, n15, o9, n11, q13.symm⟩
    · rintro _ w16 ⟨v5_16, v6_16, s0_16, s1_16, s5_16, s6_16, s167_16, hE16, o0_16, n0_16, o1_16, n1_16, q0_1_16⟩
      refine W_th ?_
      refine W_seq ?_
      refine W_reg (by kernel_rfl) ?_
      refine wla rfl rfl (q_move (v := v5_16) rfl s5_16) ?_
      refine wla rfl rfl (q_move (v := (i64 ((wI (1 + (wI ((((UInt64.ofInt a0n) % (256 : UInt64))).toNat : Int))))))) rfl s0_16) ?_
      refine wla rfl rfl (q_subI rfl rfl rfl) ?_
      refine wla rfl rfl (q_move (v := v6_16) rfl s6_16) ?_
      refine wla rfl rfl (q_move (v := (i64 ((wI (1 + (wI ((((UInt64.ofInt a1m) % (256 : UInt64))).toNat : Int))))))) rfl s1_16) ?_
      refine wla rfl rfl (q_subI rfl rfl rfl) ?_
      obtain ⟨c17, hc17, H⟩ := Option.bind_eq_some_iff.1 H
      refine wla rfl rfl (q_adr rfl T22 rfl rfl (o0_16.rd (Sc.stab _)) hc17) ?_
      refine wln rfl rfl (stp_store (R := (Sc u8)) (u := (u8 1)) (Sc.stab _) [] [v6_16] rfl T22 rfl (cst8 (1 : UInt8) rfl) o0_16 (put_of ((1 : UInt8)) hc17) rfl rfl ?_)
      intro w18 o18 g18 l18
      replace o1_16 := o1_16.other (Sc.stab _) g18 q0_1_16.symm l18
      have e19 := hE16.grown g18 n0_16
      obtain ⟨c20, hc20, H⟩ := Option.bind_eq_some_iff.1 H
      refine wla rfl rfl (q_adr rfl T22 rfl rfl (o1_16.rd (Sc.stab _)) hc20) ?_
      refine wln rfl rfl (stp_store (R := (Sc u8)) (u := (u8 1)) (Sc.stab _) [v5_16] [] rfl T22 rfl (cst8 (1 : UInt8) rfl) o1_16 (put_of ((1 : UInt8)) hc20) rfl rfl ?_)
      intro w21 o21 g21 l21
      replace o18 := o18.other (Sc.stab _) g21 q0_1_16 l21
      have e22 := e19.grown g21 n1_16
      refine wl_nil ?_
      refine W_th ?_
      refine W_seq ?_
      refine W_reg (by kernel_rfl) ?_
      obtain ⟨r23, hr23, H⟩ := Option.bind_eq_some_iff.1 H
      refine wls rfl rfl (stp_call (vs := []) Try.func18 rfl rfl rfl (ar0 ) (field_New_calls   r23 _ [v5_16, v6_16] (Old.cons (Old.cons (Old.nil _) o21.lt) o18.lt)  hr23) ?_)
      rintro _ w23 ⟨v23, rfl, x23, i23_0⟩
      refine ⟨_, rfl, ?_⟩
      replace o18 := o18.extL (Sc.stab _) x23 (Lift.ext x23 _)
      replace o21 := o21.extL (Sc.stab _) x23 (Lift.ext x23 _)
      have e24 := e22.trans x23
      refine wla rfl rfl (q_assign (v := v23) rfl rfl) ?_
      refine wl_nil ?_
      refine W_th ?_
      refine W_seq ?_
      refine W_reg (by kernel_rfl) ?_
      refine wla rfl rfl (q_move (v := v23) rfl rfl) ?_
      refine wla rfl rfl (q_move (v := v5_16) rfl s5_16) ?_
      refine wla rfl rfl (q_move (v := v6_16) rfl s6_16) ?_
      obtain ⟨r25, hr25, H⟩ := Option.bind_eq_some_iff.1 H
      refine wls rfl rfl (stp_call (vs := [v23, v5_16, v6_16]) Try.func19 rfl rfl rfl (ar3 rfl rfl rfl) (poly_Mul_calls r23 (x4.1.set ((wI ((wI (1 + (wI ((((UInt64.ofInt a0n) % (256 : UInt64))).toNat : Int)))) - 1)) : Int).toNat ((1 : UInt8))) (x4.2.set ((wI ((wI (1 + (wI ((((UInt64.ofInt a1m) % (256 : UInt64))).toNat : Int)))) - 1)) : Int).toNat ((1 : UInt8))) v23 v5_16 v6_16 r25 _ (i23_0.lift (Lift.sub (fun _ _ => trivial))) (o18.rd (Sc.stab _)) (o21.rd (Sc.stab _)) hr25) ?_)
      rintro _ w25 ⟨v25_0, rfl, x25, n25_0, o25_0⟩
      refine ⟨_, rfl, ?_⟩
      have i25_0 : By w25 [v5_16, v6_16] v25_0 r25.1 := OwK.slk (Sc.stab _) _ (OwK.scal o25_0 (v25_0 :: [v5_16, v6_16])) (fun k hk => (Old.cons (Old.cons (Old.nil _) o21.lt) o18.lt) k (n25_0 k hk)) (fun _ h => h.2)
      replace i23_0 := i23_0.lift (Lift.ext x25 _)
      replace o18 := o18.extL (Sc.stab _) x25 (Lift.ext x25 _)
      replace o21 := o21.extL (Sc.stab _) x25 (Lift.ext x25 _)
      have e26 := e24.trans x25
      refine wla rfl rfl (q_move (v := (.tuple #[v25_0, (i64 r25.2)])) rfl rfl) ?_
      refine wla rfl rfl (q_extract rfl rfl rfl) ?_
      refine wla rfl rfl (q_extract rfl rfl rfl) ?_
      refine wla rfl rfl (q_assign (v := v25_0) rfl rfl) ?_
      refine wla rfl rfl (q_assign (v := (i64 r25.2)) rfl rfl) ?_
      refine wl_nil ?_
      refine W_th ?_
      refine W_seq ?_
      refine W_seq ?_
      refine W_reg (by kernel_rfl) ?_
      refine wla rfl rfl (q_move (v := (i64 ((wI (1 + (wI ((((UInt64.ofInt a0n) % (256 : UInt64))).toNat : Int))))))) rfl s0_16) ?_
      refine wla rfl rfl (q_move (v := (i64 ((wI (1 + (wI ((((UInt64.ofInt a1m) % (256 : UInt64))).toNat : Int))))))) rfl s1_16) ?_
      refine wla rfl rfl (q_addI rfl rfl rfl) ?_
      refine wla rfl rfl (q_subI rfl rfl rfl) ?_
      refine wla rfl rfl (q_gtI rfl rfl rfl) ?_
      refine wlb rfl rfl (q_move (v := (.bool ((decide (256 < (wI ((wI ((wI (1 + (wI ((((UInt64.ofInt a0n) % (256 : UInt64))).toNat : Int)))) + (wI (1 + (wI ((((UInt64.ofInt a1m) % (256 : UInt64))).toNat : Int)))))) - 1))))))) rfl rfl) (fun hb27 => ?_) (fun hb27 => ?_)
      · replace H := (if_pos (of_decide_eq_true hb27)).symm.trans H
        refine wla rfl rfl (q_move (v := (i64 r25.2)) rfl rfl) ?_
        refine wla rfl rfl (q_neI rfl rfl rfl) ?_
        refine wlb rfl rfl (q_move (v := (.bool ((!decide (r25.2 = 4))))) rfl rfl) (fun hb28 => ?_) (fun hb28 => ?_)
        · replace H := (if_neg (ndec_t hb28)).symm.trans H
          refine wlk rfl rfl ?_
          refine wlk rfl rfl ?_
          refine wlk rfl rfl ?_
          refine wla rfl rfl (q_pick_t (v := (.bool true)) rfl rfl rfl) ?_
          refine wla rfl rfl (q_pick_t (v := (.bool true)) rfl rfl rfl) ?_
          refine wla rfl rfl (q_move (v := (.bool true)) rfl rfl) ?_
          refine wlk rfl rfl ?_
          refine wlk rfl rfl ?_
          refine wlk rfl rfl ?_
          refine wlk rfl rfl ?_
          refine wlk rfl rfl ?_
          refine wlk rfl rfl ?_
          refine wlk rfl rfl ?_
          refine wlk rfl rfl ?_
          refine wlk rfl rfl ?_
          refine wlk rfl rfl ?_
          refine wlk rfl rfl ?_
          refine wlk rfl rfl ?_
          refine wlk rfl rfl ?_
          refine wlk rfl rfl ?_
          refine wlk rfl rfl ?_
          refine wlk rfl rfl ?_
          refine wlk rfl rfl ?_
          refine wlk rfl rfl ?_
          refine wla rfl rfl (q_pick_t (v := (.bool true)) rfl rfl rfl) ?_
          refine wl_nil ?_
          refine W_th ?_
          refine W_cond true rfl rfl (fun _ => ?_) (fun hb => by cases hb)
          refine W_seq ?_
          refine W_reg (by kernel_rfl) ?_
          refine wla rfl rfl (q_assign (v := (.bool false)) rfl rfl) ?_
          refine wl_nil ?_
          refine W_th ?_
          refine W_ret ?_
          refine th_r ?_
          obtain rfl := Option.some.inj H
          refine rt1 (.bool false) rfl rfl rfl s167_16 ?_
          exact ⟨rfl, e26⟩
        · replace H := (if_pos (ndec_f hb28)).symm.trans H
          refine wla rfl rfl (q_move (v := v25_0) rfl rfl) ?_
          refine wla rfl rfl (q_len rfl T22.sl rfl i25_0) ?_
          refine wla rfl rfl (q_neI rfl rfl rfl) ?_
          refine wla rfl rfl (q_pick_f (v := (.bool ((!decide ((r25.1.length : Int) = 0))))) rfl rfl rfl) ?_
          refine wla rfl rfl (q_pick_t (v := (.bool ((!decide ((r25.1.length : Int) = 0))))) rfl rfl rfl) ?_
          refine wlb rfl rfl (q_move (v := (.bool ((!decide ((r25.1.length : Int) = 0))))) rfl rfl) (fun hb29 => ?_) (fun hb29 => ?_)
          · replace H := (if_neg (ndec_t hb29)).symm.trans H
            refine wlk rfl rfl ?_
            refine wlk rfl rfl ?_
            refine wlk rfl rfl ?_
            refine wlk rfl rfl ?_
            refine wlk rfl rfl ?_
            refine wlk rfl rfl ?_
            refine wlk rfl rfl ?_
            refine wlk rfl rfl ?_
            refine wlk rfl rfl ?_
            refine wlk rfl rfl ?_
            refine wlk rfl rfl ?_
            refine wlk rfl rfl ?_
            refine wlk rfl rfl ?_
            refine wlk rfl rfl ?_
            refine wlk rfl rfl ?_
            refine wlk rfl rfl ?_
            refine wlk rfl rfl ?_
            refine wlk rfl rfl ?_
            refine wla rfl rfl (q_pick_t (v := (.bool true)) rfl rfl rfl) ?_
            refine wl_nil ?_
            refine W_th ?_
            refine W_cond true rfl rfl (fun _ => ?_) (fun hb => by cases hb)
            refine W_seq ?_
            refine W_reg (by kernel_rfl) ?_
            refine wla rfl rfl (q_assign (v := (.bool false)) rfl rfl) ?_
            refine wl_nil ?_
            refine W_th ?_
            refine W_ret ?_
            refine th_r ?_
            obtain rfl := Option.some.inj H
            refine rt1 (.bool false) rfl rfl rfl s167_16 ?_
            exact ⟨rfl, e26⟩
          · replace H := (if_pos (ndec_f hb29)).symm.trans H
            refine wla rfl rfl (q_move (v := (i64 ((wI (1 + (wI ((((UInt64.ofInt a0n) % (256 : UInt64))).toNat : Int))))))) rfl s0_16) ?_
            refine wla rfl rfl (q_move (v := (i64 ((wI (1 + (wI ((((UInt64.ofInt a1m) % (256 : UInt64))).toNat : Int))))))) rfl s1_16) ?_
            refine wla rfl rfl (q_addI rfl rfl rfl) ?_
            refine wla rfl rfl (q_subI rfl rfl rfl) ?_
            refine wla rfl rfl (q_leI rfl rfl rfl) ?_
            refine wlb rfl rfl (q_move (v := (.bool ((decide ((wI ((wI ((wI (1 + (wI ((((UInt64.ofInt a0n) % (256 : UInt64))).toNat : Int)))) + (wI (1 + (wI ((((UInt64.ofInt a1m) % (256 : UInt64))).toNat : Int)))))) - 1)) ≤ 256))))) rfl rfl) (fun hb30 => ?_) (fun hb30 => ?_)
            · replace H := (if_pos (of_decide_eq_true hb30)).symm.trans H
              refine wla rfl rfl (q_move (v := (i64 r25.2)) rfl rfl) ?_
              refine wla rfl rfl (q_neI rfl rfl rfl) ?_
              refine wlb rfl rfl (q_move (v := (.bool ((!decide (r25.2 = 0))))) rfl rfl) (fun hb31 => ?_) (fun hb31 => ?_)
              · replace H := (if_neg (ndec_t hb31)).symm.trans H
                refine wlk rfl rfl ?_
                refine wlk rfl rfl ?_
                refine wlk rfl rfl ?_
                refine wlk rfl rfl ?_
                refine wlk rfl rfl ?_
                refine wlk rfl rfl ?_
                refine wlk rfl rfl ?_
                refine wla rfl rfl (q_pick_t (v := (.bool true)) rfl rfl rfl) ?_
                refine wla rfl rfl (q_pick_t (v := (.bool true)) rfl rfl rfl) ?_
                refine wla rfl rfl (q_pick_f (v := (.bool true)) rfl rfl rfl) ?_
                refine wl_nil ?_
                refine W_th ?_
                refine W_cond true rfl rfl (fun _ => ?_) (fun hb => by cases hb)
                refine W_seq ?_
                refine W_reg (by kernel_rfl) ?_
                refine wla rfl rfl (q_assign (v := (.bool false)) rfl rfl) ?_
                refine wl_nil ?_
                refine W_th ?_
                refine W_ret ?_
                refine th_r ?_
                obtain rfl := Option.some.inj H
                refine rt1 (.bool false) rfl rfl rfl s167_16 ?_
                exact ⟨rfl, e26⟩
              · replace H := (if_pos (ndec_f hb31)).symm.trans H
                refine wla rfl rfl (q_move (v := v25_0) rfl rfl) ?_
                obtain ⟨r32, hr32, H⟩ := Option.bind_eq_some_iff.1 H
                refine wls rfl rfl (stp_call (vs := [v25_0]) Try.func28 rfl rfl rfl (ar1 rfl) (poly_Degree_calls r25.1 v25_0 r32 _ (i25_0.lift (Lift.sub (fun _ _ => trivial))) hr32) ?_)
                rintro _ w32 ⟨rfl, x32⟩
                refine ⟨_, rfl, ?_⟩
                replace i23_0 := i23_0.lift (Lift.ext x32 _)
                replace i25_0 := i25_0.lift (Lift.ext x32 _)
                replace o18 := o18.extL (Sc.stab _) x32 (Lift.ext x32 _)
                replace o21 := o21.extL (Sc.stab _) x32 (Lift.ext x32 _)
                have e33 := e26.trans x32
                refine wla rfl rfl (q_move (v := (i64 ((wI (1 + (wI ((((UInt64.ofInt a0n) % (256 : UInt64))).toNat : Int))))))) rfl s0_16) ?_
                refine wla rfl rfl (q_move (v := (i64 ((wI (1 + (wI ((((UInt64.ofInt a1m) % (256 : UInt64))).toNat : Int))))))) rfl s1_16) ?_
                refine wla rfl rfl (q_addI rfl rfl rfl) ?_
                refine wla rfl rfl (q_subI rfl rfl rfl) ?_
                refine wla rfl rfl (q_neI rfl rfl rfl) ?_
                refine wla rfl rfl (q_pick_f (v := (.bool ((!decide (r32 = (wI ((wI ((wI (1 + (wI ((((UInt64.ofInt a0n) % (256 : UInt64))).toNat : Int)))) + (wI (1 + (wI ((((UInt64.ofInt a1m) % (256 : UInt64))).toNat : Int)))))) - 2))))))) rfl rfl rfl) ?_
                refine wla rfl rfl (q_pick_t (v := (.bool ((!decide (r32 = (wI ((wI ((wI (1 + (wI ((((UInt64.ofInt a0n) % (256 : UInt64))).toNat : Int)))) + (wI (1 + (wI ((((UInt64.ofInt a1m) % (256 : UInt64))).toNat : Int)))))) - 2))))))) rfl rfl rfl) ?_
                refine wla rfl rfl (q_pick_f (v := (.bool ((!decide (r32 = (wI ((wI ((wI (1 + (wI ((((UInt64.ofInt a0n) % (256 : UInt64))).toNat : Int)))) + (wI (1 + (wI ((((UInt64.ofInt a1m) % (256 : UInt64))).toNat : Int)))))) - 2))))))) rfl rfl rfl) ?_
                refine wl_nil ?_
                refine W_th ?_
                refine W_cond _ rfl rfl (fun hb34 => ?_) (fun hb34 => ?_)
                · replace H := (if_neg (ndec_t hb34)).symm.trans H
                  refine W_seq ?_
                  refine W_reg (by kernel_rfl) ?_
                  refine wla rfl rfl (q_assign (v := (.bool false)) rfl rfl) ?_
                  refine wl_nil ?_
                  refine W_th ?_
                  refine W_ret ?_
                  refine th_r ?_
                  obtain rfl := Option.some.inj H
                  refine rt1 (.bool false) rfl rfl rfl s167_16 ?_
                  exact ⟨rfl, e33⟩
                · replace H := (if_pos (ndec_f hb34)).symm.trans H
                  refine W_skip ?_
                  refine W_th ?_
                  refine W_seq ?_
                  refine W_reg (by kernel_rfl) ?_
                  obtain ⟨c35, hc35, H⟩ := Option.bind_eq_some_iff.1 H
                  refine wls rfl rfl (stp_make (L := [v5_16, v6_16]) (R := (Sc u8)) rfl T22 rfl rfl hc35 (fun _ _ => rfl) ?_)
                  intro v35 w35 o35 n35 g35 l35
                  have x35 := grown_ext g35
                  have q36 : Nq v5_16 v35 := o18.nq n35
                  have q37 : Nq v6_16 v35 := o21.nq n35
                  replace i23_0 := i23_0.lift (Lift.call _ x35 n35)
                  replace i25_0 := i25_0.lift (Lift.call _ x35 n35)
                  replace o18 := o18.extL (Sc.stab _) x35 (Lift.call _ x35 n35)
                  replace o21 := o21.extL (Sc.stab _) x35 (Lift.call _ x35 n35)
                  have n39 := Nw.ext e33 n35
                  have e38 := e33.trans x35
                  refine wla rfl rfl (q_assign (v := v35) rfl rfl) ?_
                  refine wl_nil ?_
                  refine W_th ?_
                  refine W_seq ?_
                  refine W_seq ?_
                  refine W_reg (by kernel_rfl) ?_
                  refine wla rfl rfl (q_move (v := v35) rfl rfl) ?_
                  refine wla rfl rfl (q_len rfl T22.sl rfl (o35.rd (Sc.stab _))) ?_
                  refine wla rfl rfl (q_move (v := (i64 0)) rfl rfl) ?_
                  refine wl_nil ?_
                  refine W_th ?_
                  obtain ⟨x40, G40, H⟩ := Option.bind_eq_some_iff.1 H
                  refine W_mid (fun f w => f 5 = v5_16 ∧ f 6 = v6_16 ∧ f 7 = v23 ∧ f 10 = v35 ∧ f 167 = undef ∧ Ext w0 w ∧ OwK (Sc u8) w [v5_16, v6_16, v35] 5 v5_16 ((x4.1.set ((wI ((wI (1 + (wI ((((UInt64.ofInt a0n) % (256 : UInt64))).toNat : Int)))) - 1)) : Int).toNat ((1 : UInt8)))) ∧ Nw w0 v5_16 ∧ OwK (Sc u8) w [v5_16, v6_16, v35] 5 v6_16 ((x4.2.set ((wI ((wI (1 + (wI ((((UInt64.ofInt a1m) % (256 : UInt64))).toNat : Int)))) - 1)) : Int).toNat ((1 : UInt8)))) ∧ Nw w0 v6_16 ∧ OwK (Sc u8) w [v5_16, v6_16, v35] 5 v35 x40 ∧ Nw w0 v35 ∧ Nq v5_16 v6_16 ∧ Nq v5_16 v35 ∧ Nq v6_16 v35 ∧ Fd w [v5_16, v6_16, v35] v23 r23) ?_ ?_
                  · refine W_block ?_
                    refine W_loop (fun s40 f w => f 5 = v5_16 ∧ f 6 = v6_16 ∧ f 7 = v23 ∧ f 10 = v35 ∧ f 93 = (i64 ((c35.length : Int))) ∧ f 94 = (i64 s40.2) ∧ f 167 = undef ∧ Ext w0 w ∧ OwK (Sc u8) w [v5_16, v6_16, v35] 5 v5_16 ((x4.1.set ((wI ((wI (1 + (wI ((((UInt64.ofInt a0n) % (256 : UInt64))).toNat : Int)))) - 1)) : Int).toNat ((1 : UInt8)))) ∧ Nw w0 v5_16 ∧ OwK (Sc u8) w [v5_16, v6_16, v35] 5 v6_16 ((x4.2.set ((wI ((wI (1 + (wI ((((UInt64.ofInt a1m) % (256 : UInt64))).toNat : Int)))) - 1)) : Int).toNat ((1 : UInt8)))) ∧ Nw w0 v6_16 ∧ OwK (Sc u8) w [v5_16, v6_16, v35] 5 v35 s40.1 ∧ Nw w0 v35 ∧ Nq v5_16 v6_16 ∧ Nq v5_16 v35 ∧ Nq v6_16 v35 ∧ Fd w [v5_16, v6_16, v35] v23 r23) G40 ?_ ?_
                    · exact ⟨s5_16, s6_16, rfl, rfl, rfl, rfl, s167_16, e38, (o18.weak (Sc.stab _) (fun _ h => ⟨h.2.1, h.2.2.1, h.1, trivial⟩)), n0_16, (o21.weak (Sc.stab _) (fun _ h => ⟨h.2.1, h.2.2.1, h.1, trivial⟩)), n1_16, (o35.weak (Sc.stab _) (fun _ h => ⟨h.2.1, h.2.2.1, h.1, trivial⟩)), n39, q0_1_16, q36, q37, (i23_0.lift (Lift.sub (fun _ h => ⟨h.2.1, h.2.2.1, h.1, trivial⟩)))⟩
                    · rintro s40 _ _ w41 ⟨s5_41, s6_41, s7_41, s10_41, s93_41, s94_41, s167_41, hE41, o0_41, n0_41, o1_41, n1_41, o2_41, n2_41, q0_1_41, q0_2_41, q1_2_41, i0_41⟩ H40 hr40
                      refine W_seq ?_
                      refine W_reg (by kernel_rfl) ?_
                      refine wla rfl rfl (q_ltI rfl s94_41 s93_41) ?_
                      refine wl_nil ?_
                      refine W_th ?_
                      refine W_seq ?_
                      refine W_cond _ rfl rfl (fun hb42 => ?_) (fun hb42 => ?_)
                      · replace H40 := (if_pos (of_decide_eq_true hb42)).symm.trans H40
                        refine W_skip ?_
                        refine W_th ?_
                        refine W_seq ?_
                        refine W_block ?_
                        refine W_seq ?_
                        refine W_reg (by kernel_rfl) ?_
                        refine wla rfl rfl (q_move (v := (i64 s40.2)) rfl s94_41) ?_
                        refine wla rfl rfl (q_assign (v := (i64 s40.2)) rfl rfl) ?_
                        refine wl_nil ?_
                        refine W_th ?_
                        refine W_reg (by kernel_rfl) ?_
                        refine wla rfl rfl (q_move (v := v35) rfl s10_41) ?_
                        refine wla rfl rfl (q_move (v := (i64 s40.2)) rfl rfl) ?_
                        refine wla rfl rfl (q_move (v := (i64 s40.2)) rfl rfl) ?_
                        refine wla rfl rfl (q_cvt8I rfl rfl rfl rfl) ?_
                        obtain ⟨c43, hc43, H40⟩ := Option.bind_eq_some_iff.1 H40
                        refine wla rfl rfl (q_adr rfl T22 rfl rfl (o2_41.rd (Sc.stab _)) hc43) ?_
                        refine wln rfl rfl (stp_store (R := (Sc u8)) (u := (u8 ((UInt8.ofInt s40.2)))) (Sc.stab _) [v5_16, v6_16] [] rfl T22 rfl rfl o2_41 (put_of ((UInt8.ofInt s40.2)) hc43) rfl rfl ?_)
                        intro w44 o44 g44 l44
                        replace i0_41 := i0_41.lift l44
                        replace o0_41 := o0_41.other (Sc.stab _) g44 q0_2_41 l44
                        replace o1_41 := o1_41.other (Sc.stab _) g44 q1_2_41 l44
                        have e45 := hE41.grown g44 n2_41
                        refine wl_nil ?_
                        refine bk_n ?_
                        refine W_th ?_
                        refine W_reg (by kernel_rfl) ?_
                        refine wla rfl rfl (q_addI rfl s94_41 rfl) ?_
                        refine wla rfl rfl (q_move (v := (i64 ((wI (s40.2 + 1))))) rfl rfl) ?_
                        refine wl_nil ?_
                        obtain rfl := Option.some.inj H40
                        exact ⟨_, rfl, s5_41, s6_41, s7_41, s10_41, s93_41, rfl, s167_41, e45, o0_41, n0_41, o1_41, n1_41, o44, n2_41, q0_1_41, q0_2_41, q1_2_41, i0_41⟩
                      · replace H40 := (if_neg (of_decide_eq_false hb42)).symm.trans H40
                        refine W_exit ?_
                        refine th_x ?_
                        obtain rfl := Option.some.inj H40
                        obtain rfl := hr40 _ rfl
                        refine th_x ?_
                        refine bk_x ?_
                        exact ⟨s5_41, s6_41, s7_41, s10_41, s167_41, hE41, o0_41, n0_41, o1_41, n1_41, o2_41, n2_41, q0_1_41, q0_2_41, q1_2_41, i0_41⟩
                  · rintro _ w47 ⟨s5_47, s6_47, s7_47, s10_47, s167_47, hE47, o0_47, n0_47, o1_47, n1_47, o2_47, n2_47, q0_1_47, q0_2_47, q1_2_47, i0_47⟩
                    refine W_th ?_
                    refine W_seq ?_
                    refine W_reg (by kernel_rfl) ?_
                    refine wla rfl rfl (q_move (v := v23) rfl s7_47) ?_
                    refine wla rfl rfl (q_move (v := v35) rfl s10_47) ?_
                    obtain ⟨r48, hr48, H⟩ := Option.bind_eq_some_iff.1 H
                    refine wls rfl rfl (stp_call (vs := [v23, v35]) Try.func30 rfl rfl rfl (ar2 rfl rfl) (poly_Vanish_calls r23 x40 v23 v35 r48 _ (i0_47.lift (Lift.sub (fun _ _ => trivial))) (o2_47.rd (Sc.stab _)) hr48) ?_)
                    rintro _ w48 ⟨v48_0, rfl, x48, n48_0, o48_0⟩
                    refine ⟨_, rfl, ?_⟩
                    have i48_0 : By w48 [v5_16, v6_16, v35] v48_0 r48.1 := OwK.slk (Sc.stab _) _ (OwK.scal o48_0 (v48_0 :: [v5_16, v6_16, v35])) (fun k hk => (Old.cons (Old.cons (Old.cons (Old.nil _) o2_47.lt) o1_47.lt) o0_47.lt) k (n48_0 k hk)) (fun _ h => h.2)
                    replace i0_47 := i0_47.lift (Lift.ext x48 _)
                    replace o0_47 := o0_47.extL (Sc.stab _) x48 (Lift.ext x48 _)
                    replace o1_47 := o1_47.extL (Sc.stab _) x48 (Lift.ext x48 _)
                    replace o2_47 := o2_47.extL (Sc.stab _) x48 (Lift.ext x48 _)
                    have e49 := hE47.trans x48
                    refine wla rfl rfl (q_move (v := (.tuple #[v48_0, (i64 r48.2)])) rfl rfl) ?_
                    refine wla rfl rfl (q_extract rfl rfl rfl) ?_
                    refine wla rfl rfl (q_extract rfl rfl rfl) ?_
                    refine wla rfl rfl (q_assign (v := v48_0) rfl rfl) ?_
                    refine wla rfl rfl (q_assign (v := (i64 r48.2)) rfl rfl) ?_
                    refine wl_nil ?_
                    refine W_th ?_
                    refine W_seq ?_
                    refine W_reg (by kernel_rfl) ?_
                    refine wla rfl rfl (q_move (v := v23) rfl s7_47) ?_
                    refine wla rfl rfl (q_move (v := v35) rfl s10_47) ?_
                    refine wls rfl rfl (stp_lit (L := [v5_16, v6_16, v35]) (R := (Sc u8)) [(u8 255)] ([(255 : UInt8)] : List UInt8) rfl T22 rfl (by exact ⟨rfl, (cst8 (255 : UInt8) rfl), trivial⟩) rfl (litC u8 (oneC_u8) (us := [(u8 255)]) (l := ([(255 : UInt8)] : List UInt8)) rfl) rfl (litS u8 (us := [(u8 255)]) (l := ([(255 : UInt8)] : List UInt8)) rfl) ?_)
                    intro v50 w50 o50 n50 g50 l50
                    have x50 := grown_ext g50
                    have i50 : By w50 [v5_16, v6_16, v35] v50 (([(255 : UInt8)] : List UInt8)) := OwK.slk (Sc.stab _) _ o50 (fun k hk => (Old.cons (Old.cons (Old.cons (Old.nil _) o2_47.lt) o1_47.lt) o0_47.lt) k (n50 k hk)) (fun _ h => h.2)
                    replace i0_47 := i0_47.lift (Lift.ext x50 _)
                    replace i48_0 := i48_0.lift (Lift.ext x50 _)
                    replace o0_47 := o0_47.extL (Sc.stab _) x50 (Lift.ext x50 _)
                    replace o1_47 := o1_47.extL (Sc.stab _) x50 (Lift.ext x50 _)
                    replace o2_47 := o2_47.extL (Sc.stab _) x50 (Lift.ext x50 _)
                    have e51 := e49.trans x50
                    obtain ⟨c52, hc52, H⟩ := Option.bind_eq_some_iff.1 H
                    refine wls rfl rfl (stp_append (R := (Sc u8)) (v := v35) (u := v50) (Sc.stab _) [v5_16, v6_16] [] rfl T22 rfl rfl o2_47 i50 (fun _ _ h => h) hc52 oc_u8 ?_)
                    intro v52 w52 o52 g52 nx52 l52
                    replace i0_47 := i0_47.lift l52
                    replace i48_0 := i48_0.lift l52
                    replace i50 := i50.lift l52
                    have q53 : Nq v5_16 v52 := o0_47.nxt q0_2_47 nx52
                    have q54 : Nq v6_16 v52 := o1_47.nxt q1_2_47 nx52
                    replace o0_47 := o0_47.other (Sc.stab _) g52 q0_2_47 l52
                    replace o1_47 := o1_47.other (Sc.stab _) g52 q1_2_47 l52
                    have e55 := e51.grown g52 n2_47
                    have n56 := Nw.nxt e51 n2_47 nx52
                    obtain ⟨r57, hr57, H⟩ := Option.bind_eq_some_iff.1 H
                    refine wls rfl rfl (stp_call (vs := [v23, v52]) Try.func30 rfl rfl rfl (ar2 rfl rfl) (poly_Vanish_calls r23 c52 v23 v52 r57 _ (i0_47.lift (Lift.sub (fun _ _ => trivial))) (o52.rd (Sc.stab _)) hr57) ?_)
                    rintro _ w57 ⟨v57_0, rfl, x57, n57_0, o57_0⟩
                    refine ⟨_, rfl, ?_⟩
                    have i57_0 : By w57 [v5_16, v6_16, v52] v57_0 r57.1 := OwK.slk (Sc.stab _) _ (OwK.scal o57_0 (v57_0 :: [v5_16, v6_16, v52])) (fun k hk => (Old.cons (Old.cons (Old.cons (Old.nil _) o52.lt) o1_47.lt) o0_47.lt) k (n57_0 k hk)) (fun _ h => h.2)
                    replace i0_47 := i0_47.lift (Lift.ext x57 _)
                    replace i48_0 := i48_0.lift (Lift.ext x57 _)
                    replace i50 := i50.lift (Lift.ext x57 _)
                    replace o0_47 := o0_47.extL (Sc.stab _) x57 (Lift.ext x57 _)
                    replace o1_47 := o1_47.extL (Sc.stab _) x57 (Lift.ext x57 _)
                    replace o52 := o52.extL (Sc.stab _) x57 (Lift.ext x57 _)
                    have e58 := e55.trans x57
                    refine wla rfl rfl (q_move (v := (.tuple #[v57_0, (i64 r57.2)])) rfl rfl) ?_
                    refine wla rfl rfl (q_extract rfl rfl rfl) ?_
                    refine wla rfl rfl (q_extract rfl rfl rfl) ?_
                    refine wla rfl rfl (q_assign (v := v57_0) rfl rfl) ?_
                    refine wla rfl rfl (q_assign (v := (i64 r57.2)) rfl rfl) ?_
                    refine wl_nil ?_
                    refine W_th ?_
                    refine W_seq ?_
                    refine W_reg (by kernel_rfl) ?_
                    refine wls rfl rfl (stp_lit (L := [v5_16, v6_16, v52]) (R := (Sc u8)) [(u8 1)] ([(1 : UInt8)] : List UInt8) rfl T22 rfl (by exact ⟨rfl, (cst8 (1 : UInt8) rfl), trivial⟩) rfl (litC u8 (oneC_u8) (us := [(u8 1)]) (l := ([(1 : UInt8)] : List UInt8)) rfl) rfl (litS u8 (us := [(u8 1)]) (l := ([(1 : UInt8)] : List UInt8)) rfl) ?_)
                    intro v59 w59 o59 n59 g59 l59
                    have x59 := grown_ext g59
                    have i59 : By w59 [v5_16, v6_16, v52] v59 (([(1 : UInt8)] : List UInt8)) := OwK.slk (Sc.stab _) _ o59 (fun k hk => (Old.cons (Old.cons (Old.cons (Old.nil _) o52.lt) o1_47.lt) o0_47.lt) k (n59 k hk)) (fun _ h => h.2)
                    replace i0_47 := i0_47.lift (Lift.ext x59 _)
                    replace i48_0 := i48_0.lift (Lift.ext x59 _)
                    replace i50 := i50.lift (Lift.ext x59 _)
                    replace i57_0 := i57_0.lift (Lift.ext x59 _)
                    replace o0_47 := o0_47.extL (Sc.stab _) x59 (Lift.ext x59 _)
                    replace o1_47 := o1_47.extL (Sc.stab _) x59 (Lift.ext x59 _)
                    replace o52 := o52.extL (Sc.stab _) x59 (Lift.ext x59 _)
                    have e60 := e58.trans x59
                    refine wls rfl rfl (stp_lit (L := [v5_16, v6_16, v52]) (R := (Sc u8)) [(u8 1)] ([(1 : UInt8)] : List UInt8) rfl T22 rfl (by exact ⟨rfl, (cst8 (1 : UInt8) rfl), trivial⟩) rfl (litC u8 (oneC_u8) (us := [(u8 1)]) (l := ([(1 : UInt8)] : List UInt8)) rfl) rfl (litS u8 (us := [(u8 1)]) (l := ([(1 : UInt8)] : List UInt8)) rfl) ?_)
                    intro v61 w61 o61 n61 g61 l61
                    have x61 := grown_ext g61
                    have i61 : By w61 [v5_16, v6_16, v52] v61 (([(1 : UInt8)] : List UInt8)) := OwK.slk (Sc.stab _) _ o61 (fun k hk => (Old.cons (Old.cons (Old.cons (Old.nil _) o52.lt) o1_47.lt) o0_47.lt) k (n61 k hk)) (fun _ h => h.2)
                    replace i0_47 := i0_47.lift (Lift.ext x61 _)
                    replace i48_0 := i48_0.lift (Lift.ext x61 _)
                    replace i50 := i50.lift (Lift.ext x61 _)
                    replace i57_0 := i57_0.lift (Lift.ext x61 _)
                    replace i59 := i59.lift (Lift.ext x61 _)
                    replace o0_47 := o0_47.extL (Sc.stab _) x61 (Lift.ext x61 _)
                    replace o1_47 := o1_47.extL (Sc.stab _) x61 (Lift.ext x61 _)
                    replace o52 := o52.extL (Sc.stab _) x61 (Lift.ext x61 _)
                    have e62 := e60.trans x61
                    obtain ⟨r63, hr63, H⟩ := Option.bind_eq_some_iff.1 H
                    refine wls rfl rfl (stp_call (vs := [(.pointer none), v59, v61]) Try.func32 rfl rfl rfl (ar3 rfl rfl rfl) (poly_Through_calls false ([(1 : UInt8)] : List UInt8) ([(1 : UInt8)] : List UInt8) (.pointer none) v59 v61 r63 _ (Fd.nil _ _) (i59.lift (Lift.sub (fun _ _ => trivial))) (i61.lift (Lift.sub (fun _ _ => trivial))) hr63) ?_)
                    rintro _ w63 ⟨v63_0, rfl, x63, n63_0, o63_0⟩
                    refine ⟨_, rfl, ?_⟩
                    have i63_0 : By w63 [v5_16, v6_16, v52] v63_0 r63.1 := OwK.slk (Sc.stab _) _ (OwK.scal o63_0 (v63_0 :: [v5_16, v6_16, v52])) (fun k hk => (Old.cons (Old.cons (Old.cons (Old.nil _) o52.lt) o1_47.lt) o0_47.lt) k (n63_0 k hk)) (fun _ h => h.2)
                    replace i0_47 := i0_47.lift (Lift.ext x63 _)
                    replace i48_0 := i48_0.lift (Lift.ext x63 _)
                    replace i50 := i50.lift (Lift.ext x63 _)
                    replace i57_0 := i57_0.lift (Lift.ext x63 _)
                    replace i59 := i59.lift (Lift.ext x63 _)
                    replace i61 := i61.lift (Lift.ext x63 _)
                    replace o0_47 := o0_47.extL (Sc.stab _) x63 (Lift.ext x63 _)
                    replace o1_47 := o1_47.extL (Sc.stab _) x63 (Lift.ext x63 _)
                    replace o52 := o52.extL (Sc.stab _) x63 (Lift.ext x63 _)
                    have e64 := e62.trans x63
                    refine wla rfl rfl (q_move (v := (.tuple #[v63_0, (i64 r63.2)])) rfl rfl) ?_
                    refine wla rfl rfl (q_extract rfl rfl rfl) ?_
                    refine wla rfl rfl (q_extract rfl rfl rfl) ?_
                    refine wla rfl rfl (q_assign (v := v63_0) rfl rfl) ?_
                    refine wla rfl rfl (q_assign (v := (i64 r63.2)) rfl rfl) ?_
                    refine wl_nil ?_
                    refine W_th ?_
                    refine W_seq ?_
                    refine W_reg (by kernel_rfl) ?_
                    obtain ⟨r65, hr65, H⟩ := Option.bind_eq_some_iff.1 H
                    refine wls rfl rfl (stp_call (vs := [(.pointer none), (.slice none 0 0), (u8 1)]) Try.func31 rfl rfl rfl (ar3 rfl rfl (cst8 (1 : UInt8) rfl)) (poly_Weights_calls false ([] : List UInt8) (1 : UInt8) (.pointer none) (.slice none 0 0) r65 _ (Fd.nil _ _) (SlK.nil _ _ _) hr65) ?_)
                    rintro _ w65 ⟨v65_0, rfl, x65, n65_0, o65_0⟩
                    refine ⟨_, rfl, ?_⟩
                    have i65_0 : By w65 [v5_16, v6_16, v52] v65_0 r65.1 := OwK.slk (Sc.stab _) _ (OwK.scal o65_0 (v65_0 :: [v5_16, v6_16, v52])) (fun k hk => (Old.cons (Old.cons (Old.cons (Old.nil _) o52.lt) o1_47.lt) o0_47.lt) k (n65_0 k hk)) (fun _ h => h.2)
                    replace i0_47 := i0_47.lift (Lift.ext x65 _)
                    replace i48_0 := i48_0.lift (Lift.ext x65 _)
                    replace i50 := i50.lift (Lift.ext x65 _)
                    replace i57_0 := i57_0.lift (Lift.ext x65 _)
                    replace i59 := i59.lift (Lift.ext x65 _)
                    replace i61 := i61.lift (Lift.ext x65 _)
                    replace i63_0 := i63_0.lift (Lift.ext x65 _)
                    replace o0_47 := o0_47.extL (Sc.stab _) x65 (Lift.ext x65 _)
                    replace o1_47 := o1_47.extL (Sc.stab _) x65 (Lift.ext x65 _)
                    replace o52 := o52.extL (Sc.stab _) x65 (Lift.ext x65 _)
                    have e66 := e64.trans x65
                    refine wla rfl rfl (q_move (v := (.tuple #[v65_0, (i64 r65.2)])) rfl rfl) ?_
                    refine wla rfl rfl (q_extract rfl rfl rfl) ?_
                    refine wla rfl rfl (q_extract rfl rfl rfl) ?_
                    refine wla rfl rfl (q_assign (v := v65_0) rfl rfl) ?_
                    refine wla rfl rfl (q_assign (v := (i64 r65.2)) rfl rfl) ?_
                    refine wl_nil ?_
                    refine W_th ?_
                    refine W_seq ?_
                    refine W_reg (by kernel_rfl) ?_
                    refine wla rfl rfl (q_move (v := v5_16) rfl s5_47) ?_
                    refine wla rfl rfl (q_move (v := v6_16) rfl s6_47) ?_
                    obtain ⟨r67, hr67, H⟩ := Option.bind_eq_some_iff.1 H
                    refine wls rfl rfl (stp_call (vs := [(.pointer none), v5_16, v6_16]) Try.func19 rfl rfl rfl (ar3 rfl rfl rfl) (poly_Mul_calls false (x4.1.set ((wI ((wI (1 + (wI ((((UInt64.ofInt a0n) % (256 : UInt64))).toNat : Int)))) - 1)) : Int).toNat ((1 : UInt8))) (x4.2.set ((wI ((wI (1 + (wI ((((UInt64.ofInt a1m) % (256 : UInt64))).toNat : Int)))) - 1)) : Int).toNat ((1 : UInt8))) (.pointer none) v5_16 v6_16 r67 _ (Fd.nil _ _) (o0_47.rd (Sc.stab _)) (o1_47.rd (Sc.stab _)) hr67) ?_)
                    rintro _ w67 ⟨v67_0, rfl, x67, n67_0, o67_0⟩
                    refine ⟨_, rfl, ?_⟩
                    have i67_0 : By w67 [v5_16, v6_16, v52] v67_0 r67.1 := OwK.slk (Sc.stab _) _ (OwK.scal o67_0 (v67_0 :: [v5_16, v6_16, v52])) (fun k hk => (Old.cons (Old.cons (Old.cons (Old.nil _) o52.lt) o1_47.lt) o0_47.lt) k (n67_0 k hk)) (fun _ h => h.2)
                    replace i0_47 := i0_47.lift (Lift.ext x67 _)
                    replace i48_0 := i48_0.lift (Lift.ext x67 _)
                    replace i50 := i50.lift (Lift.ext x67 _)
                    replace i57_0 := i57_0.lift (Lift.ext x67 _)
                    replace i59 := i59.lift (Lift.ext x67 _)
                    replace i61 := i61.lift (Lift.ext x67 _)
                    replace i63_0 := i63_0.lift (Lift.ext x67 _)
                    replace i65_0 := i65_0.lift (Lift.ext x67 _)
                    replace o0_47 := o0_47.extL (Sc.stab _) x67 (Lift.ext x67 _)
                    replace o1_47 := o1_47.extL (Sc.stab _) x67 (Lift.ext x67 _)
                    replace o52 := o52.extL (Sc.stab _) x67 (Lift.ext x67 _)
                    have e68 := e66.trans x67
                    refine wla rfl rfl (q_move (v := (.tuple #[v67_0, (i64 r67.2)])) rfl rfl) ?_
                    refine wla rfl rfl (q_extract rfl rfl rfl) ?_
                    refine wla rfl rfl (q_extract rfl rfl rfl) ?_
                    refine wla rfl rfl (q_assign (v := v67_0) rfl rfl) ?_
                    refine wla rfl rfl (q_assign (v := (i64 r67.2)) rfl rfl) ?_
                    refine wl_nil ?_
                    refine W_th ?_
                    refine W_seq ?_
                    refine W_reg (by kernel_rfl) ?_
                    refine wla rfl rfl (q_move (v := v5_16) rfl s5_47) ?_
                    refine wla rfl rfl (q_move (v := v6_16) rfl s6_47) ?_
                    obtain ⟨r69, hr69, H⟩ := Option.bind_eq_some_iff.1 H
                    refine wls rfl rfl (stp_call (vs := [(.pointer none), v5_16, v6_16]) Try.func29 rfl rfl rfl (ar3 rfl rfl rfl) (poly_DivMod_calls false (x4.1.set ((wI ((wI (1 + (wI ((((UInt64.ofInt a0n) % (256 : UInt64))).toNat : Int)))) - 1)) : Int).toNat ((1 : UInt8))) (x4.2.set ((wI ((wI (1 + (wI ((((UInt64.ofInt a1m) % (256 : UInt64))).toNat : Int)))) - 1)) : Int).toNat ((1 : UInt8))) (.pointer none) v5_16 v6_16 r69 _ (Fd.nil _ _) (o0_47.rd (Sc.stab _)) (o1_47.rd (Sc.stab _)) hr69) ?_)
                    rintro _ w69 ⟨v69_0, v69_1, rfl, x69, n69_0, o69_0, n69_1, o69_1⟩
                    refine ⟨_, rfl, ?_⟩
                    have i69_0 : By w69 [v5_16, v6_16, v52] v69_0 r69.1 := OwK.slk (Sc.stab _) _ (OwK.scal o69_0 (v69_0 :: [v5_16, v6_16, v52])) (fun k hk => (Old.cons (Old.cons (Old.cons (Old.nil _) o52.lt) o1_47.lt) o0_47.lt) k (n69_0 k hk)) (fun _ h => h.2)
                    have i69_1 : By w69 [v5_16, v6_16, v52] v69_1 r69.2.1 := OwK.slk (Sc.stab _) _ (OwK.scal o69_1 (v69_1 :: [v5_16, v6_16, v52])) (fun k hk => (Old.cons (Old.cons (Old.cons (Old.nil _) o52.lt) o1_47.lt) o0_47.lt) k (n69_1 k hk)) (fun _ h => h.2)
                    replace i0_47 := i0_47.lift (Lift.ext x69 _)
                    replace i48_0 := i48_0.lift (Lift.ext x69 _)
                    replace i50 := i50.lift (Lift.ext x69 _)
                    replace i57_0 := i57_0.lift (Lift.ext x69 _)
                    replace i59 := i59.lift (Lift.ext x69 _)
                    replace i61 := i61.lift (Lift.ext x69 _)
                    replace i63_0 := i63_0.lift (Lift.ext x69 _)
                    replace i65_0 := i65_0.lift (Lift.ext x69 _)
                    replace i67_0 := i67_0.lift (Lift.ext x69 _)
                    replace o0_47 := o0_47.extL (Sc.stab _) x69 (Lift.ext x69 _)
                    replace o1_47 := o1_47.extL (Sc.stab _) x69 (Lift.ext x69 _)
                    replace o52 := o52.extL (Sc.stab _) x69 (Lift.ext x69 _)
                    have e70 := e68.trans x69
                    refine wla rfl rfl (q_move (v := (.tuple #[v69_0, v69_1, (i64 r69.2.2)])) rfl rfl) ?_
                    refine wla rfl rfl (q_extract rfl rfl rfl) ?_
                    refine wla rfl rfl (q_extract rfl rfl rfl) ?_
                    refine wla rfl rfl (q_extract rfl rfl rfl) ?_
                    refine wla rfl rfl (q_assign (v := v69_0) rfl rfl) ?_
                    refine wla rfl rfl (q_assign (v := v69_1) rfl rfl) ?_
                    refine wla rfl rfl (q_assign (v := (i64 r69.2.2)) rfl rfl) ?_
                    refine wl_nil ?_
                    refine W_th ?_
                    refine W_seq ?_
                    refine W_reg (by kernel_rfl) ?_
                    refine wla rfl rfl (q_move (v := (i64 r48.2)) rfl rfl) ?_
                    refine wla rfl rfl (q_eqI rfl rfl rfl) ?_
                    refine wlb rfl rfl (q_move (v := (.bool ((decide (r48.2 = 0))))) rfl rfl) (fun hb71 => ?_) (fun hb71 => ?_)
                    · replace H := (if_pos (of_decide_eq_true hb71)).symm.trans H
                      refine wla rfl rfl (q_move (v := v48_0) rfl rfl) ?_
                      refine wla rfl rfl (q_len rfl T22.sl rfl i48_0) ?_
                      refine wla rfl rfl (q_eqI rfl rfl rfl) ?_
                      refine wla rfl rfl (q_pick_t (v := (.bool ((decide ((r48.1.length : Int) = 256))))) rfl rfl rfl) ?_
                      refine wlb rfl rfl (q_move (v := (.bool ((decide ((r48.1.length : Int) = 256))))) rfl rfl) (fun hb72 => ?_) (fun hb72 => ?_)
                      · replace H := (if_pos (of_decide_eq_true hb72)).symm.trans H
                        refine wla rfl rfl (q_move (v := (i64 r57.2)) rfl rfl) ?_
                        refine wla rfl rfl (q_eqI rfl rfl rfl) ?_
                        refine wla rfl rfl (q_pick_t (v := (.bool ((decide (r57.2 = 4))))) rfl rfl rfl) ?_
                        refine wlb rfl rfl (q_move (v := (.bool ((decide (r57.2 = 4))))) rfl rfl) (fun hb73 => ?_) (fun hb73 => ?_)
                        · replace H := (if_pos (of_decide_eq_true hb73)).symm.trans H
                          refine wla rfl rfl (q_move (v := (i64 r63.2)) rfl rfl) ?_
                          refine wla rfl rfl (q_eqI rfl rfl rfl) ?_
                          refine wla rfl rfl (q_pick_t (v := (.bool ((decide (r63.2 = 1))))) rfl rfl rfl) ?_
                          refine wlb rfl rfl (q_move (v := (.bool ((decide (r63.2 = 1))))) rfl rfl) (fun hb74 => ?_) (fun hb74 => ?_)
                          · replace H := (if_pos (of_decide_eq_true hb74)).symm.trans H
                            refine wla rfl rfl (q_move (v := (i64 r65.2)) rfl rfl) ?_
                            refine wla rfl rfl (q_eqI rfl rfl rfl) ?_
                            refine wla rfl rfl (q_pick_t (v := (.bool ((decide (r65.2 = 1))))) rfl rfl rfl) ?_
                            refine wlb rfl rfl (q_move (v := (.bool ((decide (r65.2 = 1))))) rfl rfl) (fun hb75 => ?_) (fun hb75 => ?_)
                            · replace H := (if_pos (of_decide_eq_true hb75)).symm.trans H
                              refine wla rfl rfl (q_move (v := (i64 r67.2)) rfl rfl) ?_
                              refine wla rfl rfl (q_eqI rfl rfl rfl) ?_
                              refine wla rfl rfl (q_pick_t (v := (.bool ((decide (r67.2 = 1))))) rfl rfl rfl) ?_
                              refine wlb rfl rfl (q_move (v := (.bool ((decide (r67.2 = 1))))) rfl rfl) (fun hb76 => ?_) (fun hb76 => ?_)
                              · replace H := (if_pos (of_decide_eq_true hb76)).symm.trans H
                                refine wla rfl rfl (q_move (v := (i64 r69.2.2)) rfl rfl) ?_
                                refine wla rfl rfl (q_eqI rfl rfl rfl) ?_
                                refine wla rfl rfl (q_pick_t (v := (.bool ((decide (r69.2.2 = 1))))) rfl rfl rfl) ?_
                                refine wla rfl rfl (q_assign (v := (.bool ((decide (r69.2.2 = 1))))) rfl rfl) ?_
                                refine wl_nil ?_
                                refine W_th ?_
                                refine W_ret ?_
                                obtain rfl := Option.some.inj H
                                refine rt1 (.bool ((decide (r69.2.2 = 1)))) rfl rfl rfl s167_47 ?_
                                exact ⟨rfl, e70⟩
                              · replace H := (if_neg (of_decide_eq_false hb76)).symm.trans H
                                refine wlk rfl rfl ?_
                                refine wlk rfl rfl ?_
                                refine wla rfl rfl (q_pick_f (v := (.bool false)) rfl rfl rfl) ?_
                                refine wla rfl rfl (q_assign (v := (.bool false)) rfl rfl) ?_
                                refine wl_nil ?_
                                refine W_th ?_
                                refine W_ret ?_
                                obtain rfl := Option.some.inj H
                                refine rt1 (.bool false) rfl rfl rfl s167_47 ?_
                                exact ⟨rfl, e70⟩
                            · replace H := (if_neg (of_decide_eq_false hb75)).symm.trans H
                              refine wlk rfl rfl ?_
                              refine wlk rfl rfl ?_
                              refine wla rfl rfl (q_pick_f (v := (.bool false)) rfl rfl rfl) ?_
                              refine wla rfl rfl (q_move (v := (.bool false)) rfl rfl) ?_
                              refine wlk rfl rfl ?_
                              refine wlk rfl rfl ?_
                              refine wla rfl rfl (q_pick_f (v := (.bool false)) rfl rfl rfl) ?_
                              refine wla rfl rfl (q_assign (v := (.bool false)) rfl rfl) ?_
                              refine wl_nil ?_
                              refine W_th ?_
                              refine W_ret ?_
                              obtain rfl := Option.some.inj H
                              refine rt1 (.bool false) rfl rfl rfl s167_47 ?_
                              exact ⟨rfl, e70⟩
                          · replace H := (if_neg (of_decide_eq_false hb74)).symm.trans H
                            refine wlk rfl rfl ?_
                            refine wlk rfl rfl ?_
                            refine wla rfl rfl (q_pick_f (v := (.bool false)) rfl rfl rfl) ?_
                            refine wla rfl rfl (q_move (v := (.bool false)) rfl rfl) ?_
                            refine wlk rfl rfl ?_
                            refine wlk rfl rfl ?_
                            refine wla rfl rfl (q_pick_f (v := (.bool false)) rfl rfl rfl) ?_
                            refine wla rfl rfl (q_move (v := (.bool false)) rfl rfl) ?_
                            refine wlk rfl rfl ?_
                            refine wlk rfl rfl ?_
                            refine wla rfl rfl (q_pick_f (v := (.bool false)) rfl rfl rfl) ?_
                            refine wla rfl rfl (q_assign (v := (.bool false)) rfl rfl) ?_
                            refine wl_nil ?_
                            refine W_th ?_
                            refine W_ret ?_
                            obtain rfl := Option.some.inj H
                            refine rt1 (.bool false) rfl rfl rfl s167_47 ?_
                            exact ⟨rfl, e70⟩
                        · replace H := (if_neg (of_decide_eq_false hb73)).symm.trans H
                          refine wlk rfl rfl ?_
                          refine wlk rfl rfl ?_
                          refine wla rfl rfl (q_pick_f (v := (.bool false)) rfl rfl rfl) ?_
                          refine wla rfl rfl (q_move (v := (.bool false)) rfl rfl) ?_
                          refine wlk rfl rfl ?_
                          refine wlk rfl rfl ?_
                          refine wla rfl rfl (q_pick_f (v := (.bool false)) rfl rfl rfl) ?_
                          refine wla rfl rfl (q_move (v := (.bool false)) rfl rfl) ?_
                          refine wlk rfl rfl ?_
                          refine wlk rfl rfl ?_
                          refine wla rfl rfl (q_pick_f (v := (.bool false)) rfl rfl rfl) ?_
                          refine wla rfl rfl (q_move (v := (.bool false)) rfl rfl) ?_
                          refine wlk rfl rfl ?_
                          refine wlk rfl rfl ?_
                          refine wla rfl rfl (q_pick_f (v := (.bool false)) rfl rfl rfl) ?_
                          refine wla rfl rfl (q_assign (v := (.bool false)) rfl rfl) ?_
                          refine wl_nil ?_
                          refine W_th ?_
                          refine W_ret ?_
                          obtain rfl := Option.some.inj H
                          refine rt1 (.bool false) rfl rfl rfl s167_47 ?_
                          exact ⟨rfl, e70⟩
                      · replace H := (if_neg (of_decide_eq_false hb72)).symm.trans H
                        refine wlk rfl rfl ?_
                        refine wlk rfl rfl ?_
                        refine wla rfl rfl (q_pick_f (v := (.bool false)) rfl rfl rfl) ?_
                        refine wla rfl rfl (q_move (v := (.bool false)) rfl rfl) ?_
                        refine wlk rfl rfl ?_
                        refine wlk rfl rfl ?_
                        refine wla rfl rfl (q_pick_f (v := (.bool false)) rfl rfl rfl) ?_
                        refine wla rfl rfl (q_move (v := (.bool false)) rfl rfl) ?_
                        refine wlk rfl rfl ?_
                        refine wlk rfl rfl ?_
                        refine wla rfl rfl (q_pick_f (v := (.bool false)) rfl rfl rfl) ?_
                        refine wla rfl rfl (q_move (v := (.bool false)) rfl rfl) ?_
                        refine wlk rfl rfl ?_
                        refine wlk rfl rfl ?_
                        refine wla rfl rfl (q_pick_f (v := (.bool false)) rfl rfl rfl) ?_
                        refine wla rfl rfl (q_move (v := (.bool false)) rfl rfl) ?_
                        refine wlk rfl rfl ?_
                        refine wlk rfl rfl ?_
                        refine wla rfl rfl (q_pick_f (v := (.bool false)) rfl rfl rfl) ?_
                        refine wla rfl rfl (q_assign (v := (.bool false)) rfl rfl) ?_
                        refine wl_nil ?_
                        refine W_th ?_
                        refine W_ret ?_
                        obtain rfl := Option.some.inj H
                        refine rt1 (.bool false) rfl rfl rfl s167_47 ?_
                        exact ⟨rfl, e70⟩
                    · replace H := (if_neg (of_decide_eq_false hb71)).symm.trans H
                      refine wlk rfl rfl ?_
                      refine wlk rfl rfl ?_
                      refine wlk rfl rfl ?_
                      refine wla rfl rfl (q_pick_f (v := (.bool false)) rfl rfl rfl) ?_
                      refine wla rfl rfl (q_move (v := (.bool false)) rfl rfl) ?_
                      refine wlk rfl rfl ?_
                      refine wlk rfl rfl ?_
                      refine wla rfl rfl (q_pick_f (v := (.bool false)) rfl rfl rfl) ?_
                      refine wla rfl rfl (q_move (v := (.bool false)) rfl rfl) ?_
                      refine wlk rfl rfl ?_
                      refine wlk rfl rfl ?_
                      refine wla rfl rfl (q_pick_f (v := (.bool false)) rfl rfl rfl) ?_
                      refine wla rfl rfl (q_move (v := (.bool false)) rfl rfl) ?_
                      refine wlk rfl rfl ?_
                      refine wlk rfl rfl ?_
                      refine wla rfl rfl (q_pick_f (v := (.bool false)) rfl rfl rfl) ?_
                      refine wla rfl rfl (q_move (v := (.bool false)) rfl rfl) ?_
                      refine wlk rfl rfl ?_
                      refine wlk rfl rfl ?_
                      refine wla rfl rfl (q_pick_f (v := (.bool false)) rfl rfl rfl) ?_
                      refine wla rfl rfl (q_move (v := (.bool false)) rfl rfl) ?_
                      refine wlk rfl rfl ?_
                      refine wlk rfl rfl ?_
                      refine wla rfl rfl (q_pick_f (v := (.bool false)) rfl rfl rfl) ?_
                      refine wla rfl rfl (q_assign (v := (.bool false)) rfl rfl) ?_
                      refine wl_nil ?_
                      refine W_th ?_
                      refine W_ret ?_
                      obtain rfl := Option.some.inj H
                      refine rt1 (.bool false) rfl rfl rfl s167_47 ?_
                      exact ⟨rfl, e70⟩
            · replace H := (if_neg (of_decide_eq_false hb30)).symm.trans H
              refine wlk rfl rfl ?_
              refine wlk rfl rfl ?_
              refine wlk rfl rfl ?_
              refine wlk rfl rfl ?_
              refine wlk rfl rfl ?_
              refine wlk rfl rfl ?_
              refine wlk rfl rfl ?_
              refine wlk rfl rfl ?_
              refine wlk rfl rfl ?_
              refine wlk rfl rfl ?_
              refine wlk rfl rfl ?_
              refine wla rfl rfl (q_pick_f (v := (.bool false)) rfl rfl rfl) ?_
              refine wla rfl rfl (q_pick_f (v := (.bool false)) rfl rfl rfl) ?_
              refine wl_nil ?_
              refine W_th ?_
              refine W_cond false rfl rfl (fun hb => by cases hb) (fun _ => ?_)
              refine W_skip ?_
              refine W_th ?_
              refine W_seq ?_
              refine W_reg (by kernel_rfl) ?_
              obtain ⟨c78, hc78, H⟩ := Option.bind_eq_some_iff.1 H
              refine wls rfl rfl (stp_make (L := [v5_16, v6_16]) (R := (Sc u8)) rfl T22 rfl rfl hc78 (fun _ _ => rfl) ?_)
              intro v78 w78 o78 n78 g78 l78
              have x78 := grown_ext g78
              have q79 : Nq v5_16 v78 := o18.nq n78
              have q80 : Nq v6_16 v78 := o21.nq n78
              replace i23_0 := i23_0.lift (Lift.call _ x78 n78)
              replace i25_0 := i25_0.lift (Lift.call _ x78 n78)
              replace o18 := o18.extL (Sc.stab _) x78 (Lift.call _ x78 n78)
              replace o21 := o21.extL (Sc.stab _) x78 (Lift.call _ x78 n78)
              have n82 := Nw.ext e26 n78
              have e81 := e26.trans x78
              refine wla rfl rfl (q_assign (v := v78) rfl rfl) ?_
              refine wl_nil ?_
              refine W_th ?_
              refine W_seq ?_
              refine W_seq ?_
              refine W_reg (by kernel_rfl) ?_
              refine wla rfl rfl (q_move (v := v78) rfl rfl) ?_
              refine wla rfl rfl (q_len rfl T22.sl rfl (o78.rd (Sc.stab _))) ?_
              refine wla rfl rfl (q_move (v := (i64 0)) rfl rfl) ?_
              refine wl_nil ?_
              refine W_th ?_
              obtain ⟨x83, G83, H⟩ := Option.bind_eq_some_iff.1 H
              refine W_mid (fun f w => f 5 = v5_16 ∧ f 6 = v6_16 ∧ f 7 = v23 ∧ f 10 = v78 ∧ f 167 = undef ∧ Ext w0 w ∧ OwK (Sc u8) w [v5_16, v6_16, v78] 5 v5_16 ((x4.1.set ((wI ((wI (1 + (wI ((((UInt64.ofInt a0n) % (256 : UInt64))).toNat : Int)))) - 1)) : Int).toNat ((1 : UInt8)))) ∧ Nw w0 v5_16 ∧ OwK (Sc u8) w [v5_16, v6_16, v78] 5 v6_16 ((x4.2.set ((wI ((wI (1 + (wI ((((UInt64.ofInt a1m) % (256 : UInt64))).toNat : Int)))) - 1)) : Int).toNat ((1 : UInt8)))) ∧ Nw w0 v6_16 ∧ OwK (Sc u8) w [v5_16, v6_16, v78] 5 v78 x83 ∧ Nw w0 v78 ∧ Nq v5_16 v6_16 ∧ Nq v5_16 v78 ∧ Nq v6_16 v78 ∧ Fd w [v5_16, v6_16, v78] v23 r23) ?_ ?_
              · refine W_block ?_
                refine W_loop (fun s83 f w => f 5 = v5_16 ∧ f 6 = v6_16 ∧ f 7 = v23 ∧ f 10 = v78 ∧ f 93 = (i64 ((c78.length : Int))) ∧ f 94 = (i64 s83.2) ∧ f 167 = undef ∧ Ext w0 w ∧ OwK (Sc u8) w [v5_16, v6_16, v78] 5 v5_16 ((x4.1.set ((wI ((wI (1 + (wI ((((UInt64.ofInt a0n) % (256 : UInt64))).toNat : Int)))) - 1)) : Int).toNat ((1 : UInt8)))) ∧ Nw w0 v5_16 ∧ OwK (Sc u8) w [v5_16, v6_16, v78] 5 v6_16 ((x4.2.set ((wI ((wI (1 + (wI ((((UInt64.ofInt a1m) % (256 : UInt64))).toNat : Int)))) - 1)) : Int).toNat ((1 : UInt8)))) ∧ Nw w0 v6_16 ∧ OwK (Sc u8) w [v5_16, v6_16, v78] 5 v78 s83.1 ∧ Nw w0 v78 ∧ Nq v5_16 v6_16 ∧ Nq v5_16 v78 ∧ Nq v6_16 v78 ∧ Fd w [v5_16, v6_16, v78] v23 r23) G83 ?_ ?_
                · exact ⟨s5_16, s6_16, rfl, rfl, rfl, rfl, s167_16, e81, (o18.weak (Sc.stab _) (fun _ h => ⟨h.2.1, h.2.2.1, h.1, trivial⟩)), n0_16, (o21.weak (Sc.stab _) (fun _ h => ⟨h.2.1, h.2.2.1, h.1, trivial⟩)), n1_16, (o78.weak (Sc.stab _) (fun _ h => ⟨h.2.1, h.2.2.1, h.1, trivial⟩)), n82, q0_1_16, q79, q80, (i23_0.lift (Lift.sub (fun _ h => ⟨h.2.1, h.2.2.1, h.1, trivial⟩)))⟩
                · rintro s83 _ _ w84 ⟨s5_84, s6_84, s7_84, s10_84, s93_84, s94_84, s167_84, hE84, o0_84, n0_84, o1_84, n1_84, o2_84, n2_84, q0_1_84, q0_2_84, q1_2_84, i0_84⟩ H83 hr83
                  refine W_seq ?_
                  refine W_reg (by kernel_rfl) ?_
                  refine wla rfl rfl (q_ltI rfl s94_84 s93_84) ?_
                  refine wl_nil ?_
                  refine W_th ?_
                  refine W_seq ?_
                  refine W_cond _ rfl rfl (fun hb85 => ?_) (fun hb85 => ?_)
                  · replace H83 := (if_pos (of_decide_eq_true hb85)).symm.trans H83
                    refine W_skip ?_
                    refine W_th ?_
                    refine W_seq ?_
                    refine W_block ?_
                    refine W_seq ?_
                    refine W_reg (by kernel_rfl) ?_
                    refine wla rfl rfl (q_move (v := (i64 s83.2)) rfl s94_84) ?_
                    refine wla rfl rfl (q_assign (v := (i64 s83.2)) rfl rfl) ?_
                    refine wl_nil ?_
                    refine W_th ?_
                    refine W_reg (by kernel_rfl) ?_
                    refine wla rfl rfl (q_move (v := v78) rfl s10_84) ?_
                    refine wla rfl rfl (q_move (v := (i64 s83.2)) rfl rfl) ?_
                    refine wla rfl rfl (q_move (v := (i64 s83.2)) rfl rfl) ?_
                    refine wla rfl rfl (q_cvt8I rfl rfl rfl rfl) ?_
                    obtain ⟨c86, hc86, H83⟩ := Option.bind_eq_some_iff.1 H83
                    refine wla rfl rfl (q_adr rfl T22 rfl rfl (o2_84.rd (Sc.stab _)) hc86) ?_
                    refine wln rfl rfl (stp_store (R := (Sc u8)) (u := (u8 ((UInt8.ofInt s83.2)))) (Sc.stab _) [v5_16, v6_16] [] rfl T22 rfl rfl o2_84 (put_of ((UInt8.ofInt s83.2)) hc86) rfl rfl ?_)
                    intro w87 o87 g87 l87
                    replace i0_84 := i0_84.lift l87
                    replace o0_84 := o0_84.other (Sc.stab _) g87 q0_2_84 l87
                    replace o1_84 := o1_84.other (Sc.stab _) g87 q1_2_84 l87
                    have e88 := hE84.grown g87 n2_84
                    refine wl_nil ?_
                    refine bk_n ?_
                    refine W_th ?_
                    refine W_reg (by kernel_rfl) ?_
                    refine wla rfl rfl (q_addI rfl s94_84 rfl) ?_
                    refine wla rfl rfl (q_move (v := (i64 ((wI (s83.2 + 1))))) rfl rfl) ?_
                    refine wl_nil ?_
                    obtain rfl := Option.some.inj H83
                    exact ⟨_, rfl, s5_84, s6_84, s7_84, s10_84, s93_84, rfl, s167_84, e88, o0_84, n0_84, o1_84, n1_84, o87, n2_84, q0_1_84, q0_2_84, q1_2_84, i0_84⟩
                  · replace H83 := (if_neg (of_decide_eq_false hb85)).symm.trans H83
                    refine W_exit ?_
                    refine th_x ?_
                    obtain rfl := Option.some.inj H83
                    obtain rfl := hr83 _ rfl
                    refine th_x ?_
                    refine bk_x ?_
                    exact ⟨s5_84, s6_84, s7_84, s10_84, s167_84, hE84, o0_84, n0_84, o1_84, n1_84, o2_84, n2_84, q0_1_84, q0_2_84, q1_2_84, i0_84⟩
              · rintro _ w90 ⟨s5_90, s6_90, s7_90, s10_90, s167_90, hE90, o0_90, n0_90, o1_90, n1_90, o2_90, n2_90, q0_1_90, q0_2_90, q1_2_90, i0_90⟩
                refine W_th ?_
                refine W_seq ?_
                refine W_reg (by kernel_rfl) ?_
                refine wla rfl rfl (q_move (v := v23) rfl s7_90) ?_
                refine wla rfl rfl (q_move (v := v78) rfl s10_90) ?_
                obtain ⟨r91, hr91, H⟩ := Option.bind_eq_some_iff.1 H
                refine wls rfl rfl (stp_call (vs := [v23, v78]) Try.func30 rfl rfl rfl (ar2 rfl rfl) (poly_Vanish_calls r23 x83 v23 v78 r91 _ (i0_90.lift (Lift.sub (fun _ _ => trivial))) (o2_90.rd (Sc.stab _)) hr91) ?_)
                rintro _ w91 ⟨v91_0, rfl, x91, n91_0, o91_0⟩
                refine ⟨_, rfl, ?_⟩
                have i91_0 : By w91 [v5_16, v6_16, v78] v91_0 r91.1 := OwK.slk (Sc.stab _) _ (OwK.scal o91_0 (v91_0 :: [v5_16, v6_16, v78])) (fun k hk => (Old.cons (Old.cons (Old.cons (Old.nil _) o2_90.lt) o1_90.lt) o0_90.lt) k (n91_0 k hk)) (fun _ h => h.2)
                replace i0_90 := i0_90.lift (Lift.ext x91 _)
                replace o0_90 := o0_90.extL (Sc.stab _) x91 (Lift.ext x91 _)
                replace o1_90 := o1_90.extL (Sc.stab _) x91 (Lift.ext x91 _)
                replace o2_90 := o2_90.extL (Sc.stab _) x91 (Lift.ext x91 _)
                have e92 := hE90.trans x91
                refine wla rfl rfl (q_move (v := (.tuple #[v91_0, (i64 r91.2)])) rfl rfl) ?_
                refine wla rfl rfl (q_extract rfl rfl rfl) ?_
                refine wla rfl rfl (q_extract rfl rfl rfl) ?_
                refine wla rfl rfl (q_assign (v := v91_0) rfl rfl) ?_
                refine wla rfl rfl (q_assign (v := (i64 r91.2)) rfl rfl) ?_
                refine wl_nil ?_
                refine W_th ?_
                refine W_seq ?_
                refine W_reg (by kernel_rfl) ?_
                refine wla rfl rfl (q_move (v := v23) rfl s7_90) ?_
                refine wla rfl rfl (q_move (v := v78) rfl s10_90) ?_
                refine wls rfl rfl (stp_lit (L := [v5_16, v6_16, v78]) (R := (Sc u8)) [(u8 255)] ([(255 : UInt8)] : List UInt8) rfl T22 rfl (by exact ⟨rfl, (cst8 (255 : UInt8) rfl), trivial⟩) rfl (litC u8 (oneC_u8) (us := [(u8 255)]) (l := ([(255 : UInt8)] : List UInt8)) rfl) rfl (litS u8 (us := [(u8 255)]) (l := ([(255 : UInt8)] : List UInt8)) rfl) ?_)
                intro v93 w93 o93 n93 g93 l93
                have x93 := grown_ext g93
                have i93 : By w93 [v5_16, v6_16, v78] v93 (([(255 : UInt8)] : List UInt8)) := OwK.slk (Sc.stab _) _ o93 (fun k hk => (Old.cons (Old.cons (Old.cons (Old.nil _) o2_90.lt) o1_90.lt) o0_90.lt) k (n93 k hk)) (fun _ h => h.2)
                replace i0_90 := i0_90.lift (Lift.ext x93 _)
                replace i91_0 := i91_0.lift (Lift.ext x93 _)
                replace o0_90 := o0_90.extL (Sc.stab _) x93 (Lift.ext x93 _)
                replace o1_90 := o1_90.extL (Sc.stab _) x93 (Lift.ext x93 _)
                replace o2_90 := o2_90.extL (Sc.stab _) x93 (Lift.ext x93 _)
                have e94 := e92.trans x93
                obtain ⟨c95, hc95, H⟩ := Option.bind_eq_some_iff.1 H
                refine wls rfl rfl (stp_append (R := (Sc u8)) (v := v78) (u := v93) (Sc.stab _) [v5_16, v6_16] [] rfl T22 rfl rfl o2_90 i93 (fun _ _ h => h) hc95 oc_u8 ?_)
                intro v95 w95 o95 g95 nx95 l95
                replace i0_90 := i0_90.lift l95
                replace i91_0 := i91_0.lift l95
                replace i93 := i93.lift l95
                have q96 : Nq v5_16 v95 := o0_90.nxt q0_2_90 nx95
                have q97 : Nq v6_16 v95 := o1_90.nxt q1_2_90 nx95
                replace o0_90 := o0_90.other (Sc.stab _) g95 q0_2_90 l95
                replace o1_90 := o1_90.other (Sc.stab _) g95 q1_2_90 l95
                have e98 := e94.grown g95 n2_90
                have n99 := Nw.nxt e94 n2_90 nx95
                obtain ⟨r100, hr100, H⟩ := Option.bind_eq_some_iff.1 H
                refine wls rfl rfl (stp_call (vs := [v23, v95]) Try.func30 rfl rfl rfl (ar2 rfl rfl) (poly_Vanish_calls r23 c95 v23 v95 r100 _ (i0_90.lift (Lift.sub (fun _ _ => trivial))) (o95.rd (Sc.stab _)) hr100) ?_)
                rintro _ w100 ⟨v100_0, rfl, x100, n100_0, o100_0⟩
                refine ⟨_, rfl, ?_⟩
                have i100_0 : By w100 [v5_16, v6_16, v95] v100_0 r100.1 := OwK.slk (Sc.stab _) _ (OwK.scal o100_0 (v100_0 :: [v5_16, v6_16, v95])) (fun k hk => (Old.cons (Old.cons (Old.cons (Old.nil _) o95.lt) o1_90.lt) o0_90.lt) k (n100_0 k hk)) (fun _ h => h.2)
                replace i0_90 := i0_90.lift (Lift.ext x100 _)
                replace i91_0 := i91_0.lift (Lift.ext x100 _)
                replace i93 := i93.lift (Lift.ext x100 _)
                replace o0_90 := o0_90.extL (Sc.stab _) x100 (Lift.ext x100 _)
                replace o1_90 := o1_90.extL (Sc.stab _) x100 (Lift.ext x100 _)
                replace o95 := o95.extL (Sc.stab _) x100 (Lift.ext x100 _)
                have e101 := e98.trans x100
                refine wla rfl rfl (q_move (v := (.tuple #[v100_0, (i64 r100.2)])) rfl rfl) ?_
                refine wla rfl rfl (q_extract rfl rfl rfl) ?_
                refine wla rfl rfl (q_extract rfl rfl rfl) ?_
                refine wla rfl rfl (q_assign (v := v100_0) rfl rfl) ?_
                refine wla rfl rfl (q_assign (v := (i64 r100.2)) rfl rfl) ?_
                refine wl_nil ?_
                refine W_th ?_
                refine W_seq ?_
                refine W_reg (by kernel_rfl) ?_
                refine wls rfl rfl (stp_lit (L := [v5_16, v6_16, v95]) (R := (Sc u8)) [(u8 1)] ([(1 : UInt8)] : List UInt8) rfl T22 rfl (by exact ⟨rfl, (cst8 (1 : UInt8) rfl), trivial⟩) rfl (litC u8 (oneC_u8) (us := [(u8 1)]) (l := ([(1 : UInt8)] : List UInt8)) rfl) rfl (litS u8 (us := [(u8 1)]) (l := ([(1 : UInt8)] : List UInt8)) rfl) ?_)
                intro v102 w102 o102 n102 g102 l102
                have x102 := grown_ext g102
                have i102 : By w102 [v5_16, v6_16, v95] v102 (([(1 : UInt8)] : List UInt8)) := OwK.slk (Sc.stab _) _ o102 (fun k hk => (Old.cons (Old.cons (Old.cons (Old.nil _) o95.lt) o1_90.lt) o0_90.lt) k (n102 k hk)) (fun _ h => h.2)
                replace i0_90 := i0_90.lift (Lift.ext x102 _)
                replace i91_0 := i91_0.lift (Lift.ext x102 _)
                replace i93 := i93.lift (Lift.ext x102 _)
                replace i100_0 := i100_0.lift (Lift.ext x102 _)
                replace o0_90 := o0_90.extL (Sc.stab _) x102 (Lift.ext x102 _)
                replace o1_90 := o1_90.extL (Sc.stab _) x102 (Lift.ext x102 _)
                replace o95 := o95.extL (Sc.stab _) x102 (Lift.ext x102 _)
                have e103 := e101.trans x102
                refine wls rfl rfl (stp_lit (L := [v5_16, v6_16, v95]) (R := (Sc u8)) [(u8 1)] ([(1 : UInt8)] : List UInt8) rfl T22 rfl (by exact ⟨rfl, (cst8 (1 : UInt8) rfl), trivial⟩) rfl (litC u8 (oneC_u8) (us := [(u8 1)]) (l := ([(1 : UInt8)] : List UInt8)) rfl) rfl (litS u8 (us := [(u8 1)]) (l := ([(1 : UInt8)] : List UInt8)) rfl) ?_)
                intro v104 w104 o104 n104 g104 l104
                have x104 := grown_ext g104
                have i104 : By w104 [v5_16, v6_16, v95] v104 (([(1 : UInt8)] : List UInt8)) := OwK.slk (Sc.stab _) _ o104 (fun k hk => (Old.cons (Old.cons (Old.cons (Old.nil _) o95.lt) o1_90.lt) o0_90.lt) k (n104 k hk)) (fun _ h => h.2)
                replace i0_90 := i0_90.lift (Lift.ext x104 _)
                replace i91_0 := i91_0.lift (Lift.ext x104 _)
                replace i93 := i93.lift (Lift.ext x104 _)
                replace i100_0 := i100_0.lift (Lift.ext x104 _)
                replace i102 := i102.lift (Lift.ext x104 _)
                replace o0_90 := o0_90.extL (Sc.stab _) x104 (Lift.ext x104 _)
                replace o1_90 := o1_90.extL (Sc.stab _) x104 (Lift.ext x104 _)
                replace o95 := o95.extL (Sc.stab _) x104 (Lift.ext x104 _)
                have e105 := e103.trans x104
                obtain ⟨r106, hr106, H⟩ := Option.bind_eq_some_iff.1 H
                refine wls rfl rfl (stp_call (vs := [(.pointer none), v102, v104]) Try.func32 rfl rfl rfl (ar3 rfl rfl rfl) (poly_Through_calls false ([(1 : UInt8)] : List UInt8) ([(1 : UInt8)] : List UInt8) (.pointer none) v102 v104 r106 _ (Fd.nil _ _) (i102.lift (Lift.sub (fun _ _ => trivial))) (i104.lift (Lift.sub (fun _ _ => trivial))) hr106) ?_)
                rintro _ w106 ⟨v106_0, rfl, x106, n106_0, o106_0⟩
                refine ⟨_, rfl, ?_⟩
                have i106_0 : By w106 [v5_16, v6_16, v95] v106_0 r106.1 := OwK.slk (Sc.stab _) _ (OwK.scal o106_0 (v106_0 :: [v5_16, v6_16, v95])) (fun k hk => (Old.cons (Old.cons (Old.cons (Old.nil _) o95.lt) o1_90.lt) o0_90.lt) k (n106_0 k hk)) (fun _ h => h.2)
                replace i0_90 := i0_90.lift (Lift.ext x106 _)
                replace i91_0 := i91_0.lift (Lift.ext x106 _)
                replace i93 := i93.lift (Lift.ext x106 _)
                replace i100_0 := i100_0.lift (Lift.ext x106 _)
                replace i102 := i102.lift (Lift.ext x106 _)
                replace i104 := i104.lift (Lift.ext x106 _)
                replace o0_90 := o0_90.extL (Sc.stab _) x106 (Lift.ext x106 _)
                replace o1_90 := o1_90.extL (Sc.stab _) x106 (Lift.ext x106 _)
                replace o95 := o95.extL (Sc.stab _) x106 (Lift.ext x106 _)
                have e107 := e105.trans x106
                refine wla rfl rfl (q_move (v := (.tuple #[v106_0, (i64 r106.2)])) rfl rfl) ?_
                refine wla rfl rfl (q_extract rfl rfl rfl) ?_
                refine wla rfl rfl (q_extract rfl rfl rfl) ?_
                refine wla rfl rfl (q_assign (v := v106_0) rfl rfl) ?_
                refine wla rfl rfl (q_assign (v := (i64 r106.2)) rfl rfl) ?_
                refine wl_nil ?_
                refine W_th ?_
                refine W_seq ?_
                refine W_reg (by kernel_rfl) ?_
                obtain ⟨r108, hr108, H⟩ := Option.bind_eq_some_iff.1 H
                refine wls rfl rfl (stp_call (vs := [(.pointer none), (.slice none 0 0), (u8 1)]) Try.func31 rfl rfl rfl (ar3 rfl rfl (cst8 (1 : UInt8) rfl)) (poly_Weights_calls false ([] : List UInt8) (1 : UInt8) (.pointer none) (.slice none 0 0) r108 _ (Fd.nil _ _) (SlK.nil _ _ _) hr108) ?_)
                rintro _ w108 ⟨v108_0, rfl, x108, n108_0, o108_0⟩
                refine ⟨_, rfl, ?_⟩
                have i108_0 : By w108 [v5_16, v6_16, v95] v108_0 r108.1 := OwK.slk (Sc.stab _) _ (OwK.scal o108_0 (v108_0 :: [v5_16, v6_16, v95])) (fun k hk => (Old.cons (Old.cons (Old.cons (Old.nil _) o95.lt) o1_90.lt) o0_90.lt) k (n108_0 k hk)) (fun _ h => h.2)
                replace i0_90 := i0_90.lift (Lift.ext x108 _)
                replace i91_0 := i91_0.lift (Lift.ext x108 _)
                replace i93 := i93.lift (Lift.ext x108 _)
                replace i100_0 := i100_0.lift (Lift.ext x108 _)
                replace i102 := i102.lift (Lift.ext x108 _)
                replace i104 := i104.lift (Lift.ext x108 _)
                replace i106_0 := i106_0.lift (Lift.ext x108 _)
                replace o0_90 := o0_90.extL (Sc.stab _) x108 (Lift.ext x108 _)
                replace o1_90 := o1_90.extL (Sc.stab _) x108 (Lift.ext x108 _)
                replace o95 := o95.extL (Sc.stab _) x108 (Lift.ext x108 _)
                have e109 := e107.trans x108
                refine wla rfl rfl (q_move (v := (.tuple #[v108_0, (i64 r108.2)])) rfl rfl) ?_
                refine wla rfl rfl (q_extract rfl rfl rfl) ?_
                refine wla rfl rfl (q_extract rfl rfl rfl) ?_
                refine wla rfl rfl (q_assign (v := v108_0) rfl rfl) ?_
                refine wla rfl rfl (q_assign (v := (i64 r108.2)) rfl rfl) ?_
                refine wl_nil ?_
                refine W_th ?_
                refine W_seq ?_
                refine W_reg (by kernel_rfl) ?_
                refine wla rfl rfl (q_move (v := v5_16) rfl s5_90) ?_
                refine wla rfl rfl (q_move (v := v6_16) rfl s6_90) ?_
                obtain ⟨r110, hr110, H⟩ := Option.bind_eq_some_iff.1 H
                refine wls rfl rfl (stp_call (vs := [(.pointer none), v5_16, v6_16]) Try.func19 rfl rfl rfl (ar3 rfl rfl rfl) (poly_Mul_calls false (x4.1.set ((wI ((wI (1 + (wI ((((UInt64.ofInt a0n) % (256 : UInt64))).toNat : Int)))) - 1)) : Int).toNat ((1 : UInt8))) (x4.2.set ((wI ((wI (1 + (wI ((((UInt64.ofInt a1m) % (256 : UInt64))).toNat : Int)))) - 1)) : Int).toNat ((1 : UInt8))) (.pointer none) v5_16 v6_16 r110 _ (Fd.nil _ _) (o0_90.rd (Sc.stab _)) (o1_90.rd (Sc.stab _)) hr110) ?_)
                rintro _ w110 ⟨v110_0, rfl, x110, n110_0, o110_0⟩
                refine ⟨_, rfl, ?_⟩
                have i110_0 : By w110 [v5_16, v6_16, v95] v110_0 r110.1 := OwK.slk (Sc.stab _) _ (OwK.scal o110_0 (v110_0 :: [v5_16, v6_16, v95])) (fun k hk => (Old.cons (Old.cons (Old.cons (Old.nil _) o95.lt) o1_90.lt) o0_90.lt) k (n110_0 k hk)) (fun _ h => h.2)
                replace i0_90 := i0_90.lift (Lift.ext x110 _)
                replace i91_0 := i91_0.lift (Lift.ext x110 _)
                replace i93 := i93.lift (Lift.ext x110 _)
                replace i100_0 := i100_0.lift (Lift.ext x110 _)
                replace i102 := i102.lift (Lift.ext x110 _)
                replace i104 := i104.lift (Lift.ext x110 _)
                replace i106_0 := i106_0.lift (Lift.ext x110 _)
                replace i108_0 := i108_0.lift (Lift.ext x110 _)
                replace o0_90 := o0_90.extL (Sc.stab _) x110 (Lift.ext x110 _)
                replace o1_90 := o1_90.extL (Sc.stab _) x110 (Lift.ext x110 _)
                replace o95 := o95.extL (Sc.stab _) x110 (Lift.ext x110 _)
                have e111 := e109.trans x110
                refine wla rfl rfl (q_move (v := (.tuple #[v110_0, (i64 r110.2)])) rfl rfl) ?_
                refine wla rfl rfl (q_extract rfl rfl rfl) ?_
                refine wla rfl rfl (q_extract rfl rfl rfl) ?_
                refine wla rfl rfl (q_assign (v := v110_0) rfl rfl) ?_
                refine wla rfl rfl (q_assign (v := (i64 r110.2)) rfl rfl) ?_
                refine wl_nil ?_
                refine W_th ?_
                refine W_seq ?_
                refine W_reg (by kernel_rfl) ?_
                refine wla rfl rfl (q_move (v := v5_16) rfl s5_90) ?_
                refine wla rfl rfl (q_move (v := v6_16) rfl s6_90) ?_
                obtain ⟨r112, hr112, H⟩ := Option.bind_eq_some_iff.1 H
                refine wls rfl rfl (stp_call (vs := [(.pointer none), v5_16, v6_16]) Try.func29 rfl rfl rfl (ar3 rfl rfl rfl) (poly_DivMod_calls false (x4.1.set ((wI ((wI (1 + (wI ((((UInt64.ofInt a0n) % (256 : UInt64))).toNat : Int)))) - 1)) : Int).toNat ((1 : UInt8))) (x4.2.set ((wI ((wI (1 + (wI ((((UInt64.ofInt a1m) % (256 : UInt64))).toNat : Int)))) - 1)) : Int).toNat ((1 : UInt8))) (.pointer none) v5_16 v6_16 r112 _ (Fd.nil _ _) (o0_90.rd (Sc.stab _)) (o1_90.rd (Sc.stab _)) hr112) ?_)
                rintro _ w112 ⟨v112_0, v112_1, rfl, x112, n112_0, o112_0, n112_1, o112_1⟩
                refine ⟨_, rfl, ?_⟩
                have i112_0 : By w112 [v5_16, v6_16, v95] v112_0 r112.1 := OwK.slk (Sc.stab _) _ (OwK.scal o112_0 (v112_0 :: [v5_16, v6_16, v95])) (fun k hk => (Old.cons (Old.cons (Old.cons (Old.nil _) o95.lt) o1_90.lt) o0_90.lt) k (n112_0 k hk)) (fun _ h => h.2)
                have i112_1 : By w112 [v5_16, v6_16, v95] v112_1 r112.2.1 := OwK.slk (Sc.stab _) _ (OwK.scal o112_1 (v112_1 :: [v5_16, v6_16, v95])) (fun k hk => (Old.cons (Old.cons (Old.cons (Old.nil _) o95.lt) o1_90.lt) o0_90.lt) k (n112_1 k hk)) (fun _ h => h.2)
                replace i0_90 := i0_90.lift (Lift.ext x112 _)
                replace i91_0 := i91_0.lift (Lift.ext x112 _)
                replace i93 := i93.lift (Lift.ext x112 _)
                replace i100_0 := i100_0.lift (Lift.ext x112 _)
                replace i102 := i102.lift (Lift.ext x112 _)
                replace i104 := i104.lift (Lift.ext x112 _)
                replace i106_0 := i106_0.lift (Lift.ext x112 _)
                replace i108_0 := i108_0.lift (Lift.ext x112 _)
                replace i110_0 := i110_0.lift (Lift.ext x112 _)
                replace o0_90 := o0_90.extL (Sc.stab _) x112 (Lift.ext x112 _)
                replace o1_90 := o1_90.extL (Sc.stab _) x112 (Lift.ext x112 _)
                replace o95 := o95.extL (Sc.stab _) x112 (Lift.ext x112 _)
                have e113 := e111.trans x112
                refine wla rfl rfl (q_move (v := (.tuple #[v112_0, v112_1, (i64 r112.2.2)])) rfl rfl) ?_
                refine wla rfl rfl (q_extract rfl rfl rfl) ?_
                refine wla rfl rfl (q_extract rfl rfl rfl) ?_
                refine wla rfl rfl (q_extract rfl rfl rfl) ?_
                refine wla rfl rfl (q_assign (v := v112_0) rfl rfl) ?_
                refine wla rfl rfl (q_assign (v := v112_1) rfl rfl) ?_
                refine wla rfl rfl (q_assign (v := (i64 r112.2.2)) rfl rfl) ?_
                refine wl_nil ?_
                refine W_th ?_
                refine W_seq ?_
                refine W_reg (by kernel_rfl) ?_
                refine wla rfl rfl (q_move (v := (i64 r91.2)) rfl rfl) ?_
                refine wla rfl rfl (q_eqI rfl rfl rfl) ?_
                refine wlb rfl rfl (q_move (v := (.bool ((decide (r91.2 = 0))))) rfl rfl) (fun hb114 => ?_) (fun hb114 => ?_)
                · replace H := (if_pos (of_decide_eq_true hb114)).symm.trans H
                  refine wla rfl rfl (q_move (v := v91_0) rfl rfl) ?_
                  refine wla rfl rfl (q_len rfl T22.sl rfl i91_0) ?_
                  refine wla rfl rfl (q_eqI rfl rfl rfl) ?_
                  refine wla rfl rfl (q_pick_t (v := (.bool ((decide ((r91.1.length : Int) = 256))))) rfl rfl rfl) ?_
                  refine wlb rfl rfl (q_move (v := (.bool ((decide ((r91.1.length : Int) = 256))))) rfl rfl) (fun hb115 => ?_) (fun hb115 => ?_)
                  · replace H := (if_pos (of_decide_eq_true hb115)).symm.trans H
                    refine wla rfl rfl (q_move (v := (i64 r100.2)) rfl rfl) ?_
                    refine wla rfl rfl (q_eqI rfl rfl rfl) ?_
                    refine wla rfl rfl (q_pick_t (v := (.bool ((decide (r100.2 = 4))))) rfl rfl rfl) ?_
                    refine wlb rfl rfl (q_move (v := (.bool ((decide (r100.2 = 4))))) rfl rfl) (fun hb116 => ?_) (fun hb116 => ?_)
                    · replace H := (if_pos (of_decide_eq_true hb116)).symm.trans H
                      refine wla rfl rfl (q_move (v := (i64 r106.2)) rfl rfl) ?_
                      refine wla rfl rfl (q_eqI rfl rfl rfl) ?_
                      refine wla rfl rfl (q_pick_t (v := (.bool ((decide (r106.2 = 1))))) rfl rfl rfl) ?_
                      refine wlb rfl rfl (q_move (v := (.bool ((decide (r106.2 = 1))))) rfl rfl) (fun hb117 => ?_) (fun hb117 => ?_)
                      · replace H := (if_pos (of_decide_eq_true hb117)).symm.trans H
                        refine wla rfl rfl (q_move (v := (i64 r108.2)) rfl rfl) ?_
                        refine wla rfl rfl (q_eqI rfl rfl rfl) ?_
                        refine wla rfl rfl (q_pick_t (v := (.bool ((decide (r108.2 = 1))))) rfl rfl rfl) ?_
                        refine wlb rfl rfl (q_move (v := (.bool ((decide (r108.2 = 1))))) rfl rfl) (fun hb118 => ?_) (fun hb118 => ?_)
                        · replace H := (if_pos (of_decide_eq_true hb118)).symm.trans H
                          refine wla rfl rfl (q_move (v := (i64 r110.2)) rfl rfl) ?_
                          refine wla rfl rfl (q_eqI rfl rfl rfl) ?_
                          refine wla rfl rfl (q_pick_t (v := (.bool ((decide (r110.2 = 1))))) rfl rfl rfl) ?_
                          refine wlb rfl rfl (q_move (v := (.bool ((decide (r110.2 = 1))))) rfl rfl) (fun hb119 => ?_) (fun hb119 => ?_)
                          · replace H := (if_pos (of_decide_eq_true hb119)).symm.trans H
                            refine wla rfl rfl (q_move (v := (i64 r112.2.2)) rfl rfl) ?_
                            refine wla rfl rfl (q_eqI rfl rfl rfl) ?_
                            refine wla rfl rfl (q_pick_t (v := (.bool ((decide (r112.2.2 = 1))))) rfl rfl rfl) ?_
                            refine wla rfl rfl (q_assign (v := (.bool ((decide (r112.2.2 = 1))))) rfl rfl) ?_
                            refine wl_nil ?_
                            refine W_th ?_
                            refine W_ret ?_
                            obtain rfl := Option.some.inj H
                            refine rt1 (.bool ((decide (r112.2.2 = 1)))) rfl rfl rfl s167_90 ?_
                            exact ⟨rfl, e113⟩
                          · replace H := (if_neg (of_decide_eq_false hb119)).symm.trans H
                            refine wlk rfl rfl ?_
                            refine wlk rfl rfl ?_
                            refine wla rfl rfl (q_pick_f (v := (.bool false)) rfl rfl rfl) ?_
                            refine wla rfl rfl (q_assign (v := (.bool false)) rfl rfl) ?_
                            refine wl_nil ?_
                            refine W_th ?_
                            refine W_ret ?_
                            obtain rfl := Option.some.inj H
                            refine rt1 (.bool false) rfl rfl rfl s167_90 ?_
                            exact ⟨rfl, e113⟩
                        · replace H := (if_neg (of_decide_eq_false hb118)).symm.trans H
                          refine wlk rfl rfl ?_
                          refine wlk rfl rfl ?_
                          refine wla rfl rfl (q_pick_f (v := (.bool false)) rfl rfl rfl) ?_
                          refine wla rfl rfl (q_move (v := (.bool false)) rfl rfl) ?_
                          refine wlk rfl rfl ?_
                          refine wlk rfl rfl ?_
                          refine wla rfl rfl (q_pick_f (v := (.bool false)) rfl rfl rfl) ?_
                          refine wla rfl rfl (q_assign (v := (.bool false)) rfl rfl) ?_
                          refine wl_nil ?_
                          refine W_th ?_
                          refine W_ret ?_
                          obtain rfl := Option.some.inj H
                          refine rt1 (.bool false) rfl rfl rfl s167_90 ?_
                          exact ⟨rfl, e113⟩
                      · replace H := (if_neg (of_decide_eq_false hb117)).symm.trans H
                        refine wlk rfl rfl ?_
                        refine wlk rfl rfl ?_
                        refine wla rfl rfl (q_pick_f (v := (.bool false)) rfl rfl rfl) ?_
                        refine wla rfl rfl (q_move (v := (.bool false)) rfl rfl) ?_
                        refine wlk rfl rfl ?_
                        refine wlk rfl rfl ?_
                        refine wla rfl rfl (q_pick_f (v := (.bool false)) rfl rfl rfl) ?_
                        refine wla rfl rfl (q_move (v := (.bool false)) rfl rfl) ?_
                        refine wlk rfl rfl ?_
                        refine wlk rfl rfl ?_
                        refine wla rfl rfl (q_pick_f (v := (.bool false)) rfl rfl rfl) ?_
                        refine wla rfl rfl (q_assign (v := (.bool false)) rfl rfl) ?_
                        refine wl_nil ?_
                        refine W_th ?_
                        refine W_ret ?_
                        obtain rfl := Option.some.inj H
                        refine rt1 (.bool false) rfl rfl rfl s167_90 ?_
                        exact ⟨rfl, e113⟩
                    · replace H := (if_neg (of_decide_eq_false hb116)).symm.trans H
                      refine wlk rfl rfl ?_
                      refine wlk rfl rfl ?_
                      refine wla rfl rfl (q_pick_f (v := (.bool false)) rfl rfl rfl) ?_
                      refine wla rfl rfl (q_move (v := (.bool false)) rfl rfl) ?_
                      refine wlk rfl rfl ?_
                      refine wlk rfl rfl ?_
                      refine wla rfl rfl (q_pick_f (v := (.bool false)) rfl rfl rfl) ?_
                      refine wla rfl rfl (q_move (v := (.bool false)) rfl rfl) ?_
                      refine wlk rfl rfl ?_
                      refine wlk rfl rfl ?_
                      refine wla rfl rfl (q_pick_f (v := (.bool false)) rfl rfl rfl) ?_
                      refine wla rfl rfl (q_move (v := (.bool false)) rfl rfl) ?_
                      refine wlk rfl rfl ?_
                      refine wlk rfl rfl ?_
                      refine wla rfl rfl (q_pick_f (v := (.bool false)) rfl rfl rfl) ?_
                      refine wla rfl rfl (q_assign (v := (.bool false)) rfl rfl) ?_
                      refine wl_nil ?_
                      refine W_th ?_
                      refine W_ret ?_
                      obtain rfl := Option.some.inj H
                      refine rt1 (.bool false) rfl rfl rfl s167_90 ?_
                      exact ⟨rfl, e113⟩
                  · replace H := (if_neg (of_decide_eq_false hb115)).symm.trans H
                    refine wlk rfl rfl ?_
                    refine wlk rfl rfl ?_
                    refine wla rfl rfl (q_pick_f (v := (.bool false)) rfl rfl rfl) ?_
                    refine wla rfl rfl (q_move (v := (.bool false)) rfl rfl) ?_
                    refine wlk rfl rfl ?_
                    refine wlk rfl rfl ?_
                    refine wla rfl rfl (q_pick_f (v := (.bool false)) rfl rfl rfl) ?_
                    refine wla rfl rfl (q_move (v := (.bool false)) rfl rfl) ?_
                    refine wlk rfl rfl ?_
                    refine wlk rfl rfl ?_
                    refine wla rfl rfl (q_pick_f (v := (.bool false)) rfl rfl rfl) ?_
                    refine wla rfl rfl (q_move (v := (.bool false)) rfl rfl) ?_
                    refine wlk rfl rfl ?_
                    refine wlk rfl rfl ?_
                    refine wla rfl rfl (q_pick_f (v := (.bool false)) rfl rfl rfl) ?_
                    refine wla rfl rfl (q_move (v := (.bool false)) rfl rfl) ?_
                    refine wlk rfl rfl ?_
                    refine wlk rfl rfl ?_
                    refine wla rfl rfl (q_pick_f (v := (.bool false)) rfl rfl rfl) ?_
                    refine wla rfl rfl (q_assign (v := (.bool false)) rfl rfl) ?_
                    refine wl_nil ?_
                    refine W_th ?_
                    refine W_ret ?_
                    obtain rfl := Option.some.inj H
                    refine rt1 (.bool false) rfl rfl rfl s167_90 ?_
                    exact ⟨rfl, e113⟩
                · replace H := (if_neg (of_decide_eq_false hb114)).symm.trans H
                  refine wlk rfl rfl ?_
                  refine wlk rfl rfl ?_
                  refine wlk rfl rfl ?_
                  refine wla rfl rfl (q_pick_f (v := (.bool false)) rfl rfl rfl) ?_
                  refine wla rfl rfl (q_move (v := (.bool false)) rfl rfl) ?_
                  refine wlk rfl rfl ?_
                  refine wlk rfl rfl ?_
                  refine wla rfl rfl (q_pick_f (v := (.bool false)) rfl rfl rfl) ?_
                  refine wla rfl rfl (q_move (v := (.bool false)) rfl rfl) ?_
                  refine wlk rfl rfl ?_
                  refine wlk rfl rfl ?_
                  refine wla rfl rfl (q_pick_f (v := (.bool false)) rfl rfl rfl) ?_
                  refine wla rfl rfl (q_move (v := (.bool false)) rfl rfl) ?_
                  refine wlk rfl rfl ?_
                  refine wlk rfl rfl ?_
                  refine wla rfl rfl (q_pick_f (v := (.bool false)) rfl rfl rfl) ?_
                  refine wla rfl rfl (q_move (v := (.bool false)) rfl rfl) ?_
                  refine wlk rfl rfl ?_
                  refine wlk rfl rfl ?_
                  refine wla rfl rfl (q_pick_f (v := (.bool false)) rfl rfl rfl) ?_
                  refine wla rfl rfl (q_move (v := (.bool false)) rfl rfl) ?_
                  refine wlk rfl rfl ?_
                  refine wlk rfl rfl ?_
                  refine wla rfl rfl (q_pick_f (v := (.bool false)) rfl rfl rfl) ?_
                  refine wla rfl rfl (q_assign (v := (.bool false)) rfl rfl) ?_
                  refine wl_nil ?_
                  refine W_th ?_
                  refine W_ret ?_
                  obtain rfl := Option.some.inj H
                  refine rt1 (.bool false) rfl rfl rfl s167_90 ?_
                  exact ⟨rfl, e113⟩
      · replace H := (if_neg (of_decide_eq_false hb27)).symm.trans H
        refine wlk rfl rfl ?_
        refine wlk rfl rfl ?_
        refine wlk rfl rfl ?_
        refine wlk rfl rfl ?_
        refine wlk rfl rfl ?_
        refine wlk rfl rfl ?_
        refine wlk rfl rfl ?_
        refine wla rfl rfl (q_pick_f (v := (.bool false)) rfl rfl rfl) ?_
        refine wla rfl rfl (q_move (v := (.bool false)) rfl rfl) ?_
        refine wla rfl rfl (q_move (v := (i64 ((wI (1 + (wI ((((UInt64.ofInt a0n) % (256 : UInt64))).toNat : Int))))))) rfl s0_16) ?_
        refine wla rfl rfl (q_move (v := (i64 ((wI (1 + (wI ((((UInt64.ofInt a1m) % (256 : UInt64))).toNat : Int))))))) rfl s1_16) ?_
        refine wla rfl rfl (q_addI rfl rfl rfl) ?_
        refine wla rfl rfl (q_subI rfl rfl rfl) ?_
        refine wla rfl rfl (q_leI rfl rfl rfl) ?_
        refine wlb rfl rfl (q_move (v := (.bool ((decide ((wI ((wI ((wI (1 + (wI ((((UInt64.ofInt a0n) % (256 : UInt64))).toNat : Int)))) + (wI (1 + (wI ((((UInt64.ofInt a1m) % (256 : UInt64))).toNat : Int)))))) - 1)) ≤ 256))))) rfl rfl) (fun hb121 => ?_) (fun hb121 => ?_)
        · replace H := (if_pos (of_decide_eq_true hb121)).symm.trans H
          refine wla rfl rfl (q_move (v := (i64 r25.2)) rfl rfl) ?_
          refine wla rfl rfl (q_neI rfl rfl rfl) ?_
          refine wlb rfl rfl (q_move (v := (.bool ((!decide (r25.2 = 0))))) rfl rfl) (fun hb122 => ?_) (fun hb122 => ?_)
          · replace H := (if_neg (ndec_t hb122)).symm.trans H
            refine wlk rfl rfl ?_
            refine wlk rfl rfl ?_
            refine wlk rfl rfl ?_
            refine wlk rfl rfl ?_
            refine wlk rfl rfl ?_
            refine wlk rfl rfl ?_
            refine wlk rfl rfl ?_
            refine wla rfl rfl (q_pick_t (v := (.bool true)) rfl rfl rfl) ?_
            refine wla rfl rfl (q_pick_t (v := (.bool true)) rfl rfl rfl) ?_
            refine wla rfl rfl (q_pick_f (v := (.bool true)) rfl rfl rfl) ?_
            refine wl_nil ?_
            refine W_th ?_
            refine W_cond true rfl rfl (fun _ => ?_) (fun hb => by cases hb)
            refine W_seq ?_
            refine W_reg (by kernel_rfl) ?_
            refine wla rfl rfl (q_assign (v := (.bool false)) rfl rfl) ?_
            refine wl_nil ?_
            refine W_th ?_
            refine W_ret ?_
            refine th_r ?_
            obtain rfl := Option.some.inj H
            refine rt1 (.bool false) rfl rfl rfl s167_16 ?_
            exact ⟨rfl, e26⟩
          · replace H := (if_pos (ndec_f hb122)).symm.trans H
            refine wla rfl rfl (q_move (v := v25_0) rfl rfl) ?_
            obtain ⟨r123, hr123, H⟩ := Option.bind_eq_some_iff.1 H
            refine wls rfl rfl (stp_call (vs := [v25_0]) Try.func28 rfl rfl rfl (ar1 rfl) (poly_Degree_calls r25.1 v25_0 r123 _ (i25_0.lift (Lift.sub (fun _ _ => trivial))) hr123) ?_)
            rintro _ w123 ⟨rfl, x123⟩
            refine ⟨_, rfl, ?_⟩
            replace i23_0 := i23_0.lift (Lift.ext x123 _)
            replace i25_0 := i25_0.lift (Lift.ext x123 _)
            replace o18 := o18.extL (Sc.stab _) x123 (Lift.ext x123 _)
            replace o21 := o21.extL (Sc.stab _) x123 (Lift.ext x123 _)
            have e124 := e26.trans x123
            refine wla rfl rfl (q_move (v := (i64 ((wI (1 + (wI ((((UInt64.ofInt a0n) % (256 : UInt64))).toNat : Int))))))) rfl s0_16) ?_
            refine wla rfl rfl (q_move (v := (i64 ((wI (1 + (wI ((((UInt64.ofInt a1m) % (256 : UInt64))).toNat : Int))))))) rfl s1_16) ?_
            refine wla rfl rfl (q_addI rfl rfl rfl) ?_
            refine wla rfl rfl (q_subI rfl rfl rfl) ?_
            refine wla rfl rfl (q_neI rfl rfl rfl) ?_
            refine wla rfl rfl (q_pick_f (v := (.bool ((!decide (r123 = (wI ((wI ((wI (1 + (wI ((((UInt64.ofInt a0n) % (256 : UInt64))).toNat : Int)))) + (wI (1 + (wI ((((UInt64.ofInt a1m) % (256 : UInt64))).toNat : Int)))))) - 2))))))) rfl rfl rfl) ?_
            refine wla rfl rfl (q_pick_t (v := (.bool ((!decide (r123 = (wI ((wI ((wI (1 + (wI ((((UInt64.ofInt a0n) % (256 : UInt64))).toNat : Int)))) + (wI (1 + (wI ((((UInt64.ofInt a1m) % (256 : UInt64))).toNat : Int)))))) - 2))))))) rfl rfl rfl) ?_
            refine wla rfl rfl (q_pick_f (v := (.bool ((!decide (r123 = (wI ((wI ((wI (1 + (wI ((((UInt64.ofInt a0n) % (256 : UInt64))).toNat : Int)))) + (wI (1 + (wI ((((UInt64.ofInt a1m) % (256 : UInt64))).toNat : Int)))))) - 2))))))) rfl rfl rfl) ?_
            refine wl_nil ?_
            refine W_th ?_
            refine W_cond _ rfl rfl (fun hb125 => ?_) (fun hb125 => ?_)
            · replace H := (if_neg (ndec_t hb125)).symm.trans H
              refine W_seq ?_
              refine W_reg (by kernel_rfl) ?_
              refine wla rfl rfl (q_assign (v := (.bool false)) rfl rfl) ?_
              refine wl_nil ?_
              refine W_th ?_
              refine W_ret ?_
              refine th_r ?_
              obtain rfl := Option.some.inj H
              refine rt1 (.bool false) rfl rfl rfl s167_16 ?_
              exact ⟨rfl, e124⟩
            · replace H := (if_pos (ndec_f hb125)).symm.trans H
              refine W_skip ?_
              refine W_th ?_
              refine W_seq ?_
              refine W_reg (by kernel_rfl) ?_
              obtain ⟨c126, hc126, H⟩ := Option.bind_eq_some_iff.1 H
              refine wls rfl rfl (stp_make (L := [v5_16, v6_16]) (R := (Sc u8)) rfl T22 rfl rfl hc126 (fun _ _ => rfl) ?_)
              intro v126 w126 o126 n126 g126 l126
              have x126 := grown_ext g126
              have q127 : Nq v5_16 v126 := o18.nq n126
              have q128 : Nq v6_16 v126 := o21.nq n126
              replace i23_0 := i23_0.lift (Lift.call _ x126 n126)
              replace i25_0 := i25_0.lift (Lift.call _ x126 n126)
              replace o18 := o18.extL (Sc.stab _) x126 (Lift.call _ x126 n126)
              replace o21 := o21.extL (Sc.stab _) x126 (Lift.call _ x126 n126)
              have n130 := Nw.ext e124 n126
              have e129 := e124.trans x126
              refine wla rfl rfl (q_assign (v := v126) rfl rfl) ?_
              refine wl_nil ?_
              refine W_th ?_
              refine W_seq ?_
              refine W_seq ?_
              refine W_reg (by kernel_rfl) ?_
              refine wla rfl rfl (q_move (v := v126) rfl rfl) ?_
              refine wla rfl rfl (q_len rfl T22.sl rfl (o126.rd (Sc.stab _))) ?_
              refine wla rfl rfl (q_move (v := (i64 0)) rfl rfl) ?_
              refine wl_nil ?_
              refine W_th ?_
              obtain ⟨x131, G131, H⟩ := Option.bind_eq_some_iff.1 H
              refine W_mid (fun f w => f 5 = v5_16 ∧ f 6 = v6_16 ∧ f 7 = v23 ∧ f 10 = v126 ∧ f 167 = undef ∧ Ext w0 w ∧ OwK (Sc u8) w [v5_16, v6_16, v126] 5 v5_16 ((x4.1.set ((wI ((wI (1 + (wI ((((UInt64.ofInt a0n) % (256 : UInt64))).toNat : Int)))) - 1)) : Int).toNat ((1 : UInt8)))) ∧ Nw w0 v5_16 ∧ OwK (Sc u8) w [v5_16, v6_16, v126] 5 v6_16 ((x4.2.set ((wI ((wI (1 + (wI ((((UInt64.ofInt a1m) % (256 : UInt64))).toNat : Int)))) - 1)) : Int).toNat ((1 : UInt8)))) ∧ Nw w0 v6_16 ∧ OwK (Sc u8) w [v5_16, v6_16, v126] 5 v126 x131 ∧ Nw w0 v126 ∧ Nq v5_16 v6_16 ∧ Nq v5_16 v126 ∧ Nq v6_16 v126 ∧ Fd w [v5_16, v6_16, v126] v23 r23) ?_ ?_
              · refine W_block ?_
                refine W_loop (fun s131 f w => f 5 = v5_16 ∧ f 6 = v6_16 ∧ f 7 = v23 ∧ f 10 = v126 ∧ f 93 = (i64 ((c126.length : Int))) ∧ f 94 = (i64 s131.2) ∧ f 167 = undef ∧ Ext w0 w ∧ OwK (Sc u8) w [v5_16, v6_16, v126] 5 v5_16 ((x4.1.set ((wI ((wI (1 + (wI ((((UInt64.ofInt a0n) % (256 : UInt64))).toNat : Int)))) - 1)) : Int).toNat ((1 : UInt8)))) ∧ Nw w0 v5_16 ∧ OwK (Sc u8) w [v5_16, v6_16, v126] 5 v6_16 ((x4.2.set ((wI ((wI (1 + (wI ((((UInt64.ofInt a1m) % (256 : UInt64))).toNat : Int)))) - 1)) : Int).toNat ((1 : UInt8)))) ∧ Nw w0 v6_16 ∧ OwK (Sc u8) w [v5_16, v6_16, v126] 5 v126 s131.1 ∧ Nw w0 v126 ∧ Nq v5_16 v6_16 ∧ Nq v5_16 v126 ∧ Nq v6_16 v126 ∧ Fd w [v5_16, v6_16, v126] v23 r23) G131 ?_ ?_
                · exact ⟨s5_16, s6_16, rfl, rfl, rfl, rfl, s167_16, e129, (o18.weak (Sc.stab _) (fun _ h => ⟨h.2.1, h.2.2.1, h.1, trivial⟩)), n0_16, (o21.weak (Sc.stab _) (fun _ h => ⟨h.2.1, h.2.2.1, h.1, trivial⟩)), n1_16, (o126.weak (Sc.stab _) (fun _ h => ⟨h.2.1, h.2.2.1, h.1, trivial⟩)), n130, q0_1_16, q127, q128, (i23_0.lift (Lift.sub (fun _ h => ⟨h.2.1, h.2.2.1, h.1, trivial⟩)))⟩
                · rintro s131 _ _ w132 ⟨s5_132, s6_132, s7_132, s10_132, s93_132, s94_132, s167_132, hE132, o0_132, n0_132, o1_132, n1_132, o2_132, n2_132, q0_1_132, q0_2_132, q1_2_132, i0_132⟩ H131 hr131
                  refine W_seq ?_
                  refine W_reg (by kernel_rfl) ?_
                  refine wla rfl rfl (q_ltI rfl s94_132 s93_132) ?_
                  refine wl_nil ?_
                  refine W_th ?_
                  refine W_seq ?_
                  refine W_cond _ rfl rfl (fun hb133 => ?_) (fun hb133 => ?_)
                  · replace H131 := (if_pos (of_decide_eq_true hb133)).symm.trans H131
                    refine W_skip ?_
                    refine W_th ?_
                    refine W_seq ?_
                    refine W_block ?_
                    refine W_seq ?_
                    refine W_reg (by kernel_rfl) ?_
                    refine wla rfl rfl (q_move (v := (i64 s131.2)) rfl s94_132) ?_
                    refine wla rfl rfl (q_assign (v := (i64 s131.2)) rfl rfl) ?_
                    refine wl_nil ?_
                    refine W_th ?_
                    refine W_reg (by kernel_rfl) ?_
                    refine wla rfl rfl (q_move (v := v126) rfl s10_132) ?_
                    refine wla rfl rfl (q_move (v := (i64 s131.2)) rfl rfl) ?_
                    refine wla rfl rfl (q_move (v := (i64 s131.2)) rfl rfl) ?_
                    refine wla rfl rfl (q_cvt8I rfl rfl rfl rfl) ?_
                    obtain ⟨c134, hc134, H131⟩ := Option.bind_eq_some_iff.1 H131
                    refine wla rfl rfl (q_adr rfl T22 rfl rfl (o2_132.rd (Sc.stab _)) hc134) ?_
                    refine wln rfl rfl (stp_store (R := (Sc u8)) (u := (u8 ((UInt8.ofInt s131.2)))) (Sc.stab _) [v5_16, v6_16] [] rfl T22 rfl rfl o2_132 (put_of ((UInt8.ofInt s131.2)) hc134) rfl rfl ?_)
                    intro w135 o135 g135 l135
                    replace i0_132 := i0_132.lift l135
                    replace o0_132 := o0_132.other (Sc.stab _) g135 q0_2_132 l135
                    replace o1_132 := o1_132.other (Sc.stab _) g135 q1_2_132 l135
                    have e136 := hE132.grown g135 n2_132
                    refine wl_nil ?_
                    refine bk_n ?_
                    refine W_th ?_
                    refine W_reg (by kernel_rfl) ?_
                    refine wla rfl rfl (q_addI rfl s94_132 rfl) ?_
                    refine wla rfl rfl (q_move (v := (i64 ((wI (s131.2 + 1))))) rfl rfl) ?_
                    refine wl_nil ?_
                    obtain rfl := Option.some.inj H131
                    exact ⟨_, rfl, s5_132, s6_132, s7_132, s10_132, s93_132, rfl, s167_132, e136, o0_132, n0_132, o1_132, n1_132, o135, n2_132, q0_1_132, q0_2_132, q1_2_132, i0_132⟩
                  · replace H131 := (if_neg (of_decide_eq_false hb133)).symm.trans H131
                    refine W_exit ?_
                    refine th_x ?_
                    obtain rfl := Option.some.inj H131
                    obtain rfl := hr131 _ rfl
                    refine th_x ?_
                    refine bk_x ?_
                    exact ⟨s5_132, s6_132, s7_132, s10_132, s167_132, hE132, o0_132, n0_132, o1_132, n1_132, o2_132, n2_132, q0_1_132, q0_2_132, q1_2_132, i0_132⟩
              · rintro _ w138 ⟨s5_138, s6_138, s7_138, s10_138, s167_138, hE138, o0_138, n0_138, o1_138, n1_138, o2_138, n2_138, q0_1_138, q0_2_138, q1_2_138, i0_138⟩
                refine W_th ?_
                refine W_seq ?_
                refine W_reg (by kernel_rfl) ?_
                refine wla rfl rfl (q_move (v := v23) rfl s7_138) ?_
                refine wla rfl rfl (q_move (v := v126) rfl s10_138) ?_
                obtain ⟨r139, hr139, H⟩ := Option.bind_eq_some_iff.1 H
                refine wls rfl rfl (stp_call (vs := [v23, v126]) Try.func30 rfl rfl rfl (ar2 rfl rfl) (poly_Vanish_calls r23 x131 v23 v126 r139 _ (i0_138.lift (Lift.sub (fun _ _ => trivial))) (o2_138.rd (Sc.stab _)) hr139) ?_)
                rintro _ w139 ⟨v139_0, rfl, x139, n139_0, o139_0⟩
                refine ⟨_, rfl, ?_⟩
                have i139_0 : By w139 [v5_16, v6_16, v126] v139_0 r139.1 := OwK.slk (Sc.stab _) _ (OwK.scal o139_0 (v139_0 :: [v5_16, v6_16, v126])) (fun k hk => (Old.cons (Old.cons (Old.cons (Old.nil _) o2_138.lt) o1_138.lt) o0_138.lt) k (n139_0 k hk)) (fun _ h => h.2)
                replace i0_138 := i0_138.lift (Lift.ext x139 _)
                replace o0_138 := o0_138.extL (Sc.stab _) x139 (Lift.ext x139 _)
                replace o1_138 := o1_138.extL (Sc.stab _) x139 (Lift.ext x139 _)
                replace o2_138 := o2_138.extL (Sc.stab _) x139 (Lift.ext x139 _)
                have e140 := hE138.trans x139
                refine wla rfl rfl (q_move (v := (.tuple #[v139_0, (i64 r139.2)])) rfl rfl) ?_
                refine wla rfl rfl (q_extract rfl rfl rfl) ?_
                refine wla rfl rfl (q_extract rfl rfl rfl) ?_
                refine wla rfl rfl (q_assign (v := v139_0) rfl rfl) ?_
                refine wla rfl rfl (q_assign (v := (i64 r139.2)) rfl rfl) ?_
                refine wl_nil ?_
                refine W_th ?_
                refine W_seq ?_
                refine W_reg (by kernel_rfl) ?_
                refine wla rfl rfl (q_move (v := v23) rfl s7_138) ?_
                refine wla rfl rfl (q_move (v := v126) rfl s10_138) ?_
                refine wls rfl rfl (stp_lit (L := [v5_16, v6_16, v126]) (R := (Sc u8)) [(u8 255)] ([(255 : UInt8)] : List UInt8) rfl T22 rfl (by exact ⟨rfl, (cst8 (255 : UInt8) rfl), trivial⟩) rfl (litC u8 (oneC_u8) (us := [(u8 255)]) (l := ([(255 : UInt8)] : List UInt8)) rfl) rfl (litS u8 (us := [(u8 255)]) (l := ([(255 : UInt8)] : List UInt8)) rfl) ?_)
                intro v141 w141 o141 n141 g141 l141
                have x141 := grown_ext g141
                have i141 : By w141 [v5_16, v6_16, v126] v141 (([(255 : UInt8)] : List UInt8)) := OwK.slk (Sc.stab _) _ o141 (fun k hk => (Old.cons (Old.cons (Old.cons (Old.nil _) o2_138.lt) o1_138.lt) o0_138.lt) k (n141 k hk)) (fun _ h => h.2)
                replace i0_138 := i0_138.lift (Lift.ext x141 _)
                replace i139_0 := i139_0.lift (Lift.ext x141 _)
                replace o0_138 := o0_138.extL (Sc.stab _) x141 (Lift.ext x141 _)
                replace o1_138 := o1_138.extL (Sc.stab _) x141 (Lift.ext x141 _)
                replace o2_138 := o2_138.extL (Sc.stab _) x141 (Lift.ext x141 _)
                have e142 := e140.trans x141
                obtain ⟨c143, hc143, H⟩ := Option.bind_eq_some_iff.1 H
                refine wls rfl rfl (stp_append (R := (Sc u8)) (v := v126) (u := v141) (Sc.stab _) [v5_16, v6_16] [] rfl T22 rfl rfl o2_138 i141 (fun _ _ h => h) hc143 oc_u8 ?_)
                intro v143 w143 o143 g143 nx143 l143
                replace i0_138 := i0_138.lift l143
                replace i139_0 := i139_0.lift l143
                replace i141 := i141.lift l143
                have q144 : Nq v5_16 v143 := o0_138.nxt q0_2_138 nx143
                have q145 : Nq v6_16 v143 := o1_138.nxt q1_2_138 nx143
                replace o0_138 := o0_138.other (Sc.stab _) g143 q0_2_138 l143
                replace o1_138 := o1_138.other (Sc.stab _) g143 q1_2_138 l143
                have e146 := e142.grown g143 n2_138
                have n147 := Nw.nxt e142 n2_138 nx143
                obtain ⟨r148, hr148, H⟩ := Option.bind_eq_some_iff.1 H
                refine wls rfl rfl (stp_call (vs := [v23, v143]) Try.func30 rfl rfl rfl (ar2 rfl rfl) (poly_Vanish_calls r23 c143 v23 v143 r148 _ (i0_138.lift (Lift.sub (fun _ _ => trivial))) (o143.rd (Sc.stab _)) hr148) ?_)
                rintro _ w148 ⟨v148_0, rfl, x148, n148_0, o148_0⟩
                refine ⟨_, rfl, ?_⟩
                have i148_0 : By w148 [v5_16, v6_16, v143] v148_0 r148.1 := OwK.slk (Sc.stab _) _ (OwK.scal o148_0 (v148_0 :: [v5_16, v6_16, v143])) (fun k hk => (Old.cons (Old.cons (Old.cons (Old.nil _) o143.lt) o1_138.lt) o0_138.lt) k (n148_0 k hk)) (fun _ h => h.2)
                replace i0_138 := i0_138.lift (Lift.ext x148 _)
                replace i139_0 := i139_0.lift (Lift.ext x148 _)
                replace i141 := i141.lift (Lift.ext x148 _)
                replace o0_138 := o0_138.extL (Sc.stab _) x148 (Lift.ext x148 _)
                replace o1_138 := o1_138.extL (Sc.stab _) x148 (Lift.ext x148 _)
                replace o143 := o143.extL (Sc.stab _) x148 (Lift.ext x148 _)
                have e149 := e146.trans x148
                refine wla rfl rfl (q_move (v := (.tuple #[v148_0, (i64 r148.2)])) rfl rfl) ?_
                refine wla rfl rfl (q_extract rfl rfl rfl) ?_
                refine wla rfl rfl (q_extract rfl rfl rfl) ?_
                refine wla rfl rfl (q_assign (v := v148_0) rfl rfl) ?_
                refine wla rfl rfl (q_assign (v := (i64 r148.2)) rfl rfl) ?_
                refine wl_nil ?_
                refine W_th ?_
                refine W_seq ?_
                refine W_reg (by kernel_rfl) ?_
                refine wls rfl rfl (stp_lit (L := [v5_16, v6_16, v143]) (R := (Sc u8)) [(u8 1)] ([(1 : UInt8)] : List UInt8) rfl T22 rfl (by exact ⟨rfl, (cst8 (1 : UInt8) rfl), trivial⟩) rfl (litC u8 (oneC_u8) (us := [(u8 1)]) (l := ([(1 : UInt8)] : List UInt8)) rfl) rfl (litS u8 (us := [(u8 1)]) (l := ([(1 : UInt8)] : List UInt8)) rfl) ?_)
                intro v150 w150 o150 n150 g150 l150
                have x150 := grown_ext g150
                have i150 : By w150 [v5_16, v6_16, v143] v150 (([(1 : UInt8)] : List UInt8)) := OwK.slk (Sc.stab _) _ o150 (fun k hk => (Old.cons (Old.cons (Old.cons (Old.nil _) o143.lt) o1_138.lt) o0_138.lt) k (n150 k hk)) (fun _ h => h.2)
                replace i0_138 := i0_138.lift (Lift.ext x150 _)
                replace i139_0 := i139_0.lift (Lift.ext x150 _)
                replace i141 := i141.lift (Lift.ext x150 _)
                replace i148_0 := i148_0.lift (Lift.ext x150 _)
                replace o0_138 := o0_138.extL (Sc.stab _) x150 (Lift.ext x150 _)
                replace o1_138 := o1_138.extL (Sc.stab _) x150 (Lift.ext x150 _)
                replace o143 := o143.extL (Sc.stab _) x150 (Lift.ext x150 _)
                have e151 := e149.trans x150
                refine wls rfl rfl (stp_lit (L := [v5_16, v6_16, v143]) (R := (Sc u8)) [(u8 1)] ([(1 : UInt8)] : List UInt8) rfl T22 rfl (by exact ⟨rfl, (cst8 (1 : UInt8) rfl), trivial⟩) rfl (litC u8 (oneC_u8) (us := [(u8 1)]) (l := ([(1 : UInt8)] : List UInt8)) rfl) rfl (litS u8 (us := [(u8 1)]) (l := ([(1 : UInt8)] : List UInt8)) rfl) ?_)
                intro v152 w152 o152 n152 g152 l152
                have x152 := grown_ext g152
                have i152 : By w152 [v5_16, v6_16, v143] v152 (([(1 : UInt8)] : List UInt8)) := OwK.slk (Sc.stab _) _ o152 (fun k hk => (Old.cons (Old.cons (Old.cons (Old.nil _) o143.lt) o1_138.lt) o0_138.lt) k (n152 k hk)) (fun _ h => h.2)
                replace i0_138 := i0_138.lift (Lift.ext x152 _)
                replace i139_0 := i139_0.lift (Lift.ext x152 _)
                replace i141 := i141.lift (Lift.ext x152 _)
                replace i148_0 := i148_0.lift (Lift.ext x152 _)
                replace i150 := i150.lift (Lift.ext x152 _)
                replace o0_138 := o0_138.extL (Sc.stab _) x152 (Lift.ext x152 _)
                replace o1_138 := o1_138.extL (Sc.stab _) x152 (Lift.ext x152 _)
                replace o143 := o143.extL (Sc.stab _) x152 (Lift.ext x152 _)
                have e153 := e151.trans x152
                obtain ⟨r154, hr154, H⟩ := Option.bind_eq_some_iff.1 H
                refine wls rfl rfl (stp_call (vs := [(.pointer none), v150, v152]) Try.func32 rfl rfl rfl (ar3 rfl rfl rfl) (poly_Through_calls false ([(1 : UInt8)] : List UInt8) ([(1 : UInt8)] : List UInt8) (.pointer none) v150 v152 r154 _ (Fd.nil _ _) (i150.lift (Lift.sub (fun _ _ => trivial))) (i152.lift (Lift.sub (fun _ _ => trivial))) hr154) ?_)
                rintro _ w154 ⟨v154_0, rfl, x154, n154_0, o154_0⟩
                refine ⟨_, rfl, ?_⟩
                have i154_0 : By w154 [v5_16, v6_16, v143] v154_0 r154.1 := OwK.slk (Sc.stab _) _ (OwK.scal o154_0 (v154_0 :: [v5_16, v6_16, v143])) (fun k hk => (Old.cons (Old.cons (Old.cons (Old.nil _) o143.lt) o1_138.lt) o0_138.lt) k (n154_0 k hk)) (fun _ h => h.2)
                replace i0_138 := i0_138.lift (Lift.ext x154 _)
                replace i139_0 := i139_0.lift (Lift.ext x154 _)
                replace i141 := i141.lift (Lift.ext x154 _)
                replace i148_0 := i148_0.lift (Lift.ext x154 _)
                replace i150 := i150.lift (Lift.ext x154 _)
                replace i152 := i152.lift (Lift.ext x154 _)
                replace o0_138 := o0_138.extL (Sc.stab _) x154 (Lift.ext x154 _)
                replace o1_138 := o1_138.extL (Sc.stab _) x154 (Lift.ext x154 _)
                replace o143 := o143.extL (Sc.stab _) x154 (Lift.ext x154 _)
                have e155 := e153.trans x154
                refine wla rfl rfl (q_move (v := (.tuple #[v154_0, (i64 r154.2)])) rfl rfl) ?_
                refine wla rfl rfl (q_extract rfl rfl rfl) ?_
                refine wla rfl rfl (q_extract rfl rfl rfl) ?_
                refine wla rfl rfl (q_assign (v := v154_0) rfl rfl) ?_
                refine wla rfl rfl (q_assign (v := (i64 r154.2)) rfl rfl) ?_
                refine wl_nil ?_
                refine W_th ?_
                refine W_seq ?_
                refine W_reg (by kernel_rfl) ?_
                obtain ⟨r156, hr156, H⟩ := Option.bind_eq_some_iff.1 H
                refine wls rfl rfl (stp_call (vs := [(.pointer none), (.slice none 0 0), (u8 1)]) Try.func31 rfl rfl rfl (ar3 rfl rfl (cst8 (1 : UInt8) rfl)) (poly_Weights_calls false ([] : List UInt8) (1 : UInt8) (.pointer none) (.slice none 0 0) r156 _ (Fd.nil _ _) (SlK.nil _ _ _) hr156) ?_)
                rintro _ w156 ⟨v156_0, rfl, x156, n156_0, o156_0⟩
                refine ⟨_, rfl, ?_⟩
                have i156_0 : By w156 [v5_16, v6_16, v143] v156_0 r156.1 := OwK.slk (Sc.stab _) _ (OwK.scal o156_0 (v156_0 :: [v5_16, v6_16, v143])) (fun k hk => (Old.cons (Old.cons (Old.cons (Old.nil _) o143.lt) o1_138.lt) o0_138.lt) k (n156_0 k hk)) (fun _ h => h.2)
                replace i0_138 := i0_138.lift (Lift.ext x156 _)
                replace i139_0 := i139_0.lift (Lift.ext x156 _)
                replace i141 := i141.lift (Lift.ext x156 _)
                replace i148_0 := i148_0.lift (Lift.ext x156 _)
                replace i150 := i150.lift (Lift.ext x156 _)
                replace i152 := i152.lift (Lift.ext x156 _)
                replace i154_0 := i154_0.lift (Lift.ext x156 _)
                replace o0_138 := o0_138.extL (Sc.stab _) x156 (Lift.ext x156 _)
                replace o1_138 := o1_138.extL (Sc.stab _) x156 (Lift.ext x156 _)
                replace o143 := o143.extL (Sc.stab _) x156 (Lift.ext x156 _)
                have e157 := e155.trans x156
                refine wla rfl rfl (q_move (v := (.tuple #[v156_0, (i64 r156.2)])) rfl rfl) ?_
                refine wla rfl rfl (q_extract rfl rfl rfl) ?_
                refine wla rfl rfl (q_extract rfl rfl rfl) ?_
                refine wla rfl rfl (q_assign (v := v156_0) rfl rfl) ?_
                refine wla rfl rfl (q_assign (v := (i64 r156.2)) rfl rfl) ?_
                refine wl_nil ?_
                refine W_th ?_
                refine W_seq ?_
                refine W_reg (by kernel_rfl) ?_
                refine wla rfl rfl (q_move (v := v5_16) rfl s5_138) ?_
                refine wla rfl rfl (q_move (v := v6_16) rfl s6_138) ?_
                obtain ⟨r158, hr158, H⟩ := Option.bind_eq_some_iff.1 H
                refine wls rfl rfl (stp_call (vs := [(.pointer none), v5_16, v6_16]) Try.func19 rfl rfl rfl (ar3 rfl rfl rfl) (poly_Mul_calls false (x4.1.set ((wI ((wI (1 + (wI ((((UInt64.ofInt a0n) % (256 : UInt64))).toNat : Int)))) - 1)) : Int).toNat ((1 : UInt8))) (x4.2.set ((wI ((wI (1 + (wI ((((UInt64.ofInt a1m) % (256 : UInt64))).toNat : Int)))) - 1)) : Int).toNat ((1 : UInt8))) (.pointer none) v5_16 v6_16 r158 _ (Fd.nil _ _) (o0_138.rd (Sc.stab _)) (o1_138.rd (Sc.stab _)) hr158) ?_)
                rintro _ w158 ⟨v158_0, rfl, x158, n158_0, o158_0⟩
                refine ⟨_, rfl, ?_⟩
                have i158_0 : By w158 [v5_16, v6_16, v143] v158_0 r158.1 := OwK.slk (Sc.stab _) _ (OwK.scal o158_0 (v158_0 :: [v5_16, v6_16, v143])) (fun k hk => (Old.cons (Old.cons (Old.cons (Old.nil _) o143.lt) o1_138.lt) o0_138.lt) k (n158_0 k hk)) (fun _ h => h.2)
                replace i0_138 := i0_138.lift (Lift.ext x158 _)
                replace i139_0 := i139_0.lift (Lift.ext x158 _)
                replace i141 := i141.lift (Lift.ext x158 _)
                replace i148_0 := i148_0.lift (Lift.ext x158 _)
                replace i150 := i150.lift (Lift.ext x158 _)
                replace i152 := i152.lift (Lift.ext x158 _)
                replace i154_0 := i154_0.lift (Lift.ext x158 _)
                replace i156_0 := i156_0.lift (Lift.ext x158 _)
                replace o0_138 := o0_138.extL (Sc.stab _) x158 (Lift.ext x158 _)
                replace o1_138 := o1_138.extL (Sc.stab _) x158 (Lift.ext x158 _)
                replace o143 := o143.extL (Sc.stab _) x158 (Lift.ext x158 _)
                have e159 := e157.trans x158
                refine wla rfl rfl (q_move (v := (.tuple #[v158_0, (i64 r158.2)])) rfl rfl) ?_
                refine wla rfl rfl (q_extract rfl rfl rfl) ?_
                refine wla rfl rfl (q_extract rfl rfl rfl) ?_
                refine wla rfl rfl (q_assign (v := v158_0) rfl rfl) ?_
                refine wla rfl rfl (q_assign (v := (i64 r158.2)) rfl rfl) ?_
                refine wl_nil ?_
                refine W_th ?_
                refine W_seq ?_
                refine W_reg (by kernel_rfl) ?_
                refine wla rfl rfl (q_move (v := v5_16) rfl s5_138) ?_
                refine wla rfl rfl (q_move (v := v6_16) rfl s6_138) ?_
                obtain ⟨r160, hr160, H⟩ := Option.bind_eq_some_iff.1 H
                refine wls rfl rfl (stp_call (vs := [(.pointer none), v5_16, v6_16]) Try.func29 rfl rfl rfl (ar3 rfl rfl rfl) (poly_DivMod_calls false (x4.1.set ((wI ((wI (1 + (wI ((((UInt64.ofInt a0n) % (256 : UInt64))).toNat : Int)))) - 1)) : Int).toNat ((1 : UInt8))) (x4.2.set ((wI ((wI (1 + (wI ((((UInt64.ofInt a1m) % (256 : UInt64))).toNat : Int)))) - 1)) : Int).toNat ((1 : UInt8))) (.pointer none) v5_16 v6_16 r160 _ (Fd.nil _ _) (o0_138.rd (Sc.stab _)) (o1_138.rd (Sc.stab _)) hr160) ?_)
                rintro _ w160 ⟨v160_0, v160_1, rfl, x160, n160_0, o160_0, n160_1, o160_1⟩
                refine ⟨_, rfl, ?_⟩
                have i160_0 : By w160 [v5_16, v6_16, v143] v160_0 r160.1 := OwK.slk (Sc.stab _) _ (OwK.scal o160_0 (v160_0 :: [v5_16, v6_16, v143])) (fun k hk => (Old.cons (Old.cons (Old.cons (Old.nil _) o143.lt) o1_138.lt) o0_138.lt) k (n160_0 k hk)) (fun _ h => h.2)
                have i160_1 : By w160 [v5_16, v6_16, v143] v160_1 r160.2.1 := OwK.slk (Sc.stab _) _ (OwK.scal o160_1 (v160_1 :: [v5_16, v6_16, v143])) (fun k hk => (Old.cons (Old.cons (Old.cons (Old.nil _) o143.lt) o1_138.lt) o0_138.lt) k (n160_1 k hk)) (fun _ h => h.2)
                replace i0_138 := i0_138.lift (Lift.ext x160 _)
                replace i139_0 := i139_0.lift (Lift.ext x160 _)
                replace i141 := i141.lift (Lift.ext x160 _)
                replace i148_0 := i148_0.lift (Lift.ext x160 _)
                replace i150 := i150.lift (Lift.ext x160 _)
                replace i152 := i152.lift (Lift.ext x160 _)
                replace i154_0 := i154_0.lift (Lift.ext x160 _)
                replace i156_0 := i156_0.lift (Lift.ext x160 _)
                replace i158_0 := i158_0.lift (Lift.ext x160 _)
                replace o0_138 := o0_138.extL (Sc.stab _) x160 (Lift.ext x160 _)
                replace o1_138 := o1_138.extL (Sc.stab _) x160 (Lift.ext x160 _)
                replace o143 := o143.extL (Sc.stab _) x160 (Lift.ext x160 _)
                have e161 := e159.trans x160
                refine wla rfl rfl (q_move (v := (.tuple #[v160_0, v160_1, (i64 r160.2.2)])) rfl rfl) ?_
                refine wla rfl rfl (q_extract rfl rfl rfl) ?_
                refine wla rfl rfl (q_extract rfl rfl rfl) ?_
                refine wla rfl rfl (q_extract rfl rfl rfl) ?_
                refine wla rfl rfl (q_assign (v := v160_0) rfl rfl) ?_
                refine wla rfl rfl (q_assign (v := v160_1) rfl rfl) ?_
                refine wla rfl rfl (q_assign (v := (i64 r160.2.2)) rfl rfl) ?_
                refine wl_nil ?_
                refine W_th ?_
                refine W_seq ?_
                refine W_reg (by kernel_rfl) ?_
                refine wla rfl rfl (q_move (v := (i64 r139.2)) rfl rfl) ?_
                refine wla rfl rfl (q_eqI rfl rfl rfl) ?_
                refine wlb rfl rfl (q_move (v := (.bool ((decide (r139.2 = 0))))) rfl rfl) (fun hb162 => ?_) (fun hb162 => ?_)
                · replace H := (if_pos (of_decide_eq_true hb162)).symm.trans H
                  refine wla rfl rfl (q_move (v := v139_0) rfl rfl) ?_
                  refine wla rfl rfl (q_len rfl T22.sl rfl i139_0) ?_
                  refine wla rfl rfl (q_eqI rfl rfl rfl) ?_
                  refine wla rfl rfl (q_pick_t (v := (.bool ((decide ((r139.1.length : Int) = 256))))) rfl rfl rfl) ?_
                  refine wlb rfl rfl (q_move (v := (.bool ((decide ((r139.1.length : Int) = 256))))) rfl rfl) (fun hb163 => ?_) (fun hb163 => ?_)
                  · replace H := (if_pos (of_decide_eq_true hb163)).symm.trans H
                    refine wla rfl rfl (q_move (v := (i64 r148.2)) rfl rfl) ?_
                    refine wla rfl rfl (q_eqI rfl rfl rfl) ?_
                    refine wla rfl rfl (q_pick_t (v := (.bool ((decide (r148.2 = 4))))) rfl rfl rfl) ?_
                    refine wlb rfl rfl (q_move (v := (.bool ((decide (r148.2 = 4))))) rfl rfl) (fun hb164 => ?_) (fun hb164 => ?_)
                    · replace H := (if_pos (of_decide_eq_true hb164)).symm.trans H
                      refine wla rfl rfl (q_move (v := (i64 r154.2)) rfl rfl) ?_
                      refine wla rfl rfl (q_eqI rfl rfl rfl) ?_
                      refine wla rfl rfl (q_pick_t (v := (.bool ((decide (r154.2 = 1))))) rfl rfl rfl) ?_
                      refine wlb rfl rfl (q_move (v := (.bool ((decide (r154.2 = 1))))) rfl rfl) (fun hb165 => ?_) (fun hb165 => ?_)
                      · replace H := (if_pos (of_decide_eq_true hb165)).symm.trans H
                        refine wla rfl rfl (q_move (v := (i64 r156.2)) rfl rfl) ?_
                        refine wla rfl rfl (q_eqI rfl rfl rfl) ?_
                        refine wla rfl rfl (q_pick_t (v := (.bool ((decide (r156.2 = 1))))) rfl rfl rfl) ?_
                        refine wlb rfl rfl (q_move (v := (.bool ((decide (r156.2 = 1))))) rfl rfl) (fun hb166 => ?_) (fun hb166 => ?_)
                        · replace H := (if_pos (of_decide_eq_true hb166)).symm.trans H
                          refine wla rfl rfl (q_move (v := (i64 r158.2)) rfl rfl) ?_
                          refine wla rfl rfl (q_eqI rfl rfl rfl) ?_
                          refine wla rfl rfl (q_pick_t (v := (.bool ((decide (r158.2 = 1))))) rfl rfl rfl) ?_
                          refine wlb rfl rfl (q_move (v := (.bool ((decide (r158.2 = 1))))) rfl rfl) (fun hb167 => ?_) (fun hb167 => ?_)
                          · replace H := (if_pos (of_decide_eq_true hb167)).symm.trans H
                            refine wla rfl rfl (q_move (v := (i64 r160.2.2)) rfl rfl) ?_
                            refine wla rfl rfl (q_eqI rfl rfl rfl) ?_
                            refine wla rfl rfl (q_pick_t (v := (.bool ((decide (r160.2.2 = 1))))) rfl rfl rfl) ?_
                            refine wla rfl rfl (q_assign (v := (.bool ((decide (r160.2.2 = 1))))) rfl rfl) ?_
                            refine wl_nil ?_
                            refine W_th ?_
                            refine W_ret ?_
                            obtain rfl := Option.some.inj H
                            refine rt1 (.bool ((decide (r160.2.2 = 1)))) rfl rfl rfl s167_138 ?_
                            exact ⟨rfl, e161⟩
                          · replace H := (if_neg (of_decide_eq_false hb167)).symm.trans H
                            refine wlk rfl rfl ?_
                            refine wlk rfl rfl ?_
                            refine wla rfl rfl (q_pick_f (v := (.bool false)) rfl rfl rfl) ?_
                            refine wla rfl rfl (q_assign (v := (.bool false)) rfl rfl) ?_
                            refine wl_nil ?_
                            refine W_th ?_
                            refine W_ret ?_
                            obtain rfl := Option.some.inj H
                            refine rt1 (.bool false) rfl rfl rfl s167_138 ?_
                            exact ⟨rfl, e161⟩
                        · replace H := (if_neg (of_decide_eq_false hb166)).symm.trans H
                          refine wlk rfl rfl ?_
                          refine wlk rfl rfl ?_
                          refine wla rfl rfl (q_pick_f (v := (.bool false)) rfl rfl rfl) ?_
                          refine wla rfl rfl (q_move (v := (.bool false)) rfl rfl) ?_
                          refine wlk rfl rfl ?_
                          refine wlk rfl rfl ?_
                          refine wla rfl rfl (q_pick_f (v := (.bool false)) rfl rfl rfl) ?_
                          refine wla rfl rfl (q_assign (v := (.bool false)) rfl rfl) ?_
                          refine wl_nil ?_
                          refine W_th ?_
                          refine W_ret ?_
                          obtain rfl := Option.some.inj H
                          refine rt1 (.bool false) rfl rfl rfl s167_138 ?_
                          exact ⟨rfl, e161⟩
                      · replace H := (if_neg (of_decide_eq_false hb165)).symm.trans H
                        refine wlk rfl rfl ?_
                        refine wlk rfl rfl ?_
                        refine wla rfl rfl (q_pick_f (v := (.bool false)) rfl rfl rfl) ?_
                        refine wla rfl rfl (q_move (v := (.bool false)) rfl rfl) ?_
                        refine wlk rfl rfl ?_
                        refine wlk rfl rfl ?_
                        refine wla rfl rfl (q_pick_f (v := (.bool false)) rfl rfl rfl) ?_
                        refine wla rfl rfl (q_move (v := (.bool false)) rfl rfl) ?_
                        refine wlk rfl rfl ?_
                        refine wlk rfl rfl ?_
                        refine wla rfl rfl (q_pick_f (v := (.bool false)) rfl rfl rfl) ?_
                        refine wla rfl rfl (q_assign (v := (.bool false)) rfl rfl) ?_
                        refine wl_nil ?_
                        refine W_th ?_
                        refine W_ret ?_
                        obtain rfl := Option.some.inj H
                        refine rt1 (.bool false) rfl rfl rfl s167_138 ?_
                        exact ⟨rfl, e161⟩
                    · replace H := (if_neg (of_decide_eq_false hb164)).symm.trans H
                      refine wlk rfl rfl ?_
                      refine wlk rfl rfl ?_
                      refine wla rfl rfl (q_pick_f (v := (.bool false)) rfl rfl rfl) ?_
                      refine wla rfl rfl (q_move (v := (.bool false)) rfl rfl) ?_
                      refine wlk rfl rfl ?_
                      refine wlk rfl rfl ?_
                      refine wla rfl rfl (q_pick_f (v := (.bool false)) rfl rfl rfl) ?_
                      refine wla rfl rfl (q_move (v := (.bool false)) rfl rfl) ?_
                      refine wlk rfl rfl ?_
                      refine wlk rfl rfl ?_
                      refine wla rfl rfl (q_pick_f (v := (.bool false)) rfl rfl rfl) ?_
                      refine wla rfl rfl (q_move (v := (.bool false)) rfl rfl) ?_
                      refine wlk rfl rfl ?_
                      refine wlk rfl rfl ?_
                      refine wla rfl rfl (q_pick_f (v := (.bool false)) rfl rfl rfl) ?_
                      refine wla rfl rfl (q_assign (v := (.bool false)) rfl rfl) ?_
                      refine wl_nil ?_
                      refine W_th ?_
                      refine W_ret ?_
                      obtain rfl := Option.some.inj H
                      refine rt1 (.bool false) rfl rfl rfl s167_138 ?_
                      exact ⟨rfl, e161⟩
                  · replace H := (if_neg (of_decide_eq_false hb163)).symm.trans H
                    refine wlk rfl rfl ?_
                    refine wlk rfl rfl ?_
                    refine wla rfl rfl (q_pick_f (v := (.bool false)) rfl rfl rfl) ?_
                    refine wla rfl rfl (q_move (v := (.bool false)) rfl rfl) ?_
                    refine wlk rfl rfl ?_
                    refine wlk rfl rfl ?_
                    refine wla rfl rfl (q_pick_f (v := (.bool false)) rfl rfl rfl) ?_
                    refine wla rfl rfl (q_move (v := (.bool false)) rfl rfl) ?_
                    refine wlk rfl rfl ?_
                    refine wlk rfl rfl ?_
                    refine wla rfl rfl (q_pick_f (v := (.bool false)) rfl rfl rfl) ?_
                    refine wla rfl rfl (q_move (v := (.bool false)) rfl rfl) ?_
                    refine wlk rfl rfl ?_
                    refine wlk rfl rfl ?_
                    refine wla rfl rfl (q_pick_f (v := (.bool false)) rfl rfl rfl) ?_
                    refine wla rfl rfl (q_move (v := (.bool false)) rfl rfl) ?_
                    refine wlk rfl rfl ?_
                    refine wlk rfl rfl ?_
                    refine wla rfl rfl (q_pick_f (v := (.bool false)) rfl rfl rfl) ?_
                    refine wla rfl rfl (q_assign (v := (.bool false)) rfl rfl) ?_
                    refine wl_nil ?_
                    refine W_th ?_
                    refine W_ret ?_
                    obtain rfl := Option.some.inj H
                    refine rt1 (.bool false) rfl rfl rfl s167_138 ?_
                    exact ⟨rfl, e161⟩
                · replace H := (if_neg (of_decide_eq_false hb162)).symm.trans H
                  refine wlk rfl rfl ?_
                  refine wlk rfl rfl ?_
                  refine wlk rfl rfl ?_
                  refine wla rfl rfl (q_pick_f (v := (.bool false)) rfl rfl rfl) ?_
                  refine wla rfl rfl (q_move (v := (.bool false)) rfl rfl) ?_
                  refine wlk rfl rfl ?_
                  refine wlk rfl rfl ?_
                  refine wla rfl rfl (q_pick_f (v := (.bool false)) rfl rfl rfl) ?_
                  refine wla rfl rfl (q_move (v := (.bool false)) rfl rfl) ?_
                  refine wlk rfl rfl ?_
                  refine wlk rfl rfl ?_
                  refine wla rfl rfl (q_pick_f (v := (.bool false)) rfl rfl rfl) ?_
                  refine wla rfl rfl (q_move (v := (.bool false)) rfl rfl) ?_
                  refine wlk rfl rfl ?_
                  refine wlk rfl rfl ?_
                  refine wla rfl rfl (q_pick_f (v := (.bool false)) rfl rfl rfl) ?_
                  refine wla rfl rfl (q_move (v := (.bool false)) rfl rfl) ?_
                  refine wlk rfl rfl ?_
                  refine wlk rfl rfl ?_
                  refine wla rfl rfl (q_pick_f (v := (.bool false)) rfl rfl rfl) ?_
                  refine wla rfl rfl (q_move (v := (.bool false)) rfl rfl) ?_
                  refine wlk rfl rfl ?_
                  refine wlk rfl rfl ?_
                  refine wla rfl rfl (q_pick_f (v := (.bool false)) rfl rfl rfl) ?_
                  refine wla rfl rfl (q_assign (v := (.bool false)) rfl rfl) ?_
                  refine wl_nil ?_
                  refine W_th ?_
                  refine W_ret ?_
                  obtain rfl := Option.some.inj H
                  refine rt1 (.bool false) rfl rfl rfl s167_138 ?_
                  exact ⟨rfl, e161⟩
        · replace H := (if_neg (of_decide_eq_false hb121)).symm.trans H
          refine wlk rfl rfl ?_
          refine wlk rfl rfl ?_
          refine wlk rfl rfl ?_
          refine wlk rfl rfl ?_
          refine wlk rfl rfl ?_
          refine wlk rfl rfl ?_
          refine wlk rfl rfl ?_
          refine wlk rfl rfl ?_
          refine wlk rfl rfl ?_
          refine wlk rfl rfl ?_
          refine wlk rfl rfl ?_
          refine wla rfl rfl (q_pick_f (v := (.bool false)) rfl rfl rfl) ?_
          refine wla rfl rfl (q_pick_f (v := (.bool false)) rfl rfl rfl) ?_
          refine wl_nil ?_
          refine W_th ?_
          refine W_cond false rfl rfl (fun hb => by cases hb) (fun _ => ?_)
          refine W_skip ?_
          refine W_th ?_
          refine W_seq ?_
          refine W_reg (by kernel_rfl) ?_
          obtain ⟨c169, hc169, H⟩ := Option.bind_eq_some_iff.1 H
          refine wls rfl rfl (stp_make (L := [v5_16, v6_16]) (R := (Sc u8)) rfl T22 rfl rfl hc169 (fun _ _ => rfl) ?_)
          intro v169 w169 o169 n169 g169 l169
          have x169 := grown_ext g169
          have q170 : Nq v5_16 v169 := o18.nq n169
          have q171 : Nq v6_16 v169 := o21.nq n169
          replace i23_0 := i23_0.lift (Lift.call _ x169 n169)
          replace i25_0 := i25_0.lift (Lift.call _ x169 n169)
          replace o18 := o18.extL (Sc.stab _) x169 (Lift.call _ x169 n169)
          replace o21 := o21.extL (Sc.stab _) x169 (Lift.call _ x169 n169)
          have n173 := Nw.ext e26 n169
          have e172 := e26.trans x169
          refine wla rfl rfl (q_assign (v := v169) rfl rfl) ?_
          refine wl_nil ?_
          refine W_th ?_
          refine W_seq ?_
          refine W_seq ?_
          refine W_reg (by kernel_rfl) ?_
          refine wla rfl rfl (q_move (v := v169) rfl rfl) ?_
          refine wla rfl rfl (q_len rfl T22.sl rfl (o169.rd (Sc.stab _))) ?_
          refine wla rfl rfl (q_move (v := (i64 0)) rfl rfl) ?_
          refine wl_nil ?_
          refine W_th ?_
          obtain ⟨x174, G174, H⟩ := Option.bind_eq_some_iff.1 H
          refine W_mid (fun f w => f 5 = v5_16 ∧ f 6 = v6_16 ∧ f 7 = v23 ∧ f 10 = v169 ∧ f 167 = undef ∧ Ext w0 w ∧ OwK (Sc u8) w [v5_16, v6_16, v169] 5 v5_16 ((x4.1.set ((wI ((wI (1 + (wI ((((UInt64.ofInt a0n) % (256 : UInt64))).toNat : Int)))) - 1)) : Int).toNat ((1 : UInt8)))) ∧ Nw w0 v5_16 ∧ OwK (Sc u8) w [v5_16, v6_16, v169] 5 v6_16 ((x4.2.set ((wI ((wI (1 + (wI ((((UInt64.ofInt a1m) % (256 : UInt64))).toNat : Int)))) - 1)) : Int).toNat ((1 : UInt8)))) ∧ Nw w0 v6_16 ∧ OwK (Sc u8) w [v5_16, v6_16, v169] 5 v169 x174 ∧ Nw w0 v169 ∧ Nq v5_16 v6_16 ∧ Nq v5_16 v169 ∧ Nq v6_16 v169 ∧ Fd w [v5_16, v6_16, v169] v23 r23) ?_ ?_
          · refine W_block ?_
            refine W_loop (fun s174 f w => f 5 = v5_16 ∧ f 6 = v6_16 ∧ f 7 = v23 ∧ f 10 = v169 ∧ f 93 = (i64 ((c169.length : Int))) ∧ f 94 = (i64 s174.2) ∧ f 167 = undef ∧ Ext w0 w ∧ OwK (Sc u8) w [v5_16, v6_16, v169] 5 v5_16 ((x4.1.set ((wI ((wI (1 + (wI ((((UInt64.ofInt a0n) % (256 : UInt64))).toNat : Int)))) - 1)) : Int).toNat ((1 : UInt8)))) ∧ Nw w0 v5_16 ∧ OwK (Sc u8) w [v5_16, v6_16, v169] 5 v6_16 ((x4.2.set ((wI ((wI (1 + (wI ((((UInt64.ofInt a1m) % (256 : UInt64))).toNat : Int)))) - 1)) : Int).toNat ((1 : UInt8)))) ∧ Nw w0 v6_16 ∧ OwK (Sc u8) w [v5_16, v6_16, v169] 5 v169 s174.1 ∧ Nw w0 v169 ∧ Nq v5_16 v6_16 ∧ Nq v5_16 v169 ∧ Nq v6_16 v169 ∧ Fd w [v5_16, v6_16, v169] v23 r23) G174 ?_ ?_
            · exact ⟨s5_16, s6_16, rfl, rfl, rfl, rfl, s167_16, e172, (o18.weak (Sc.stab _) (fun _ h => ⟨h.2.1, h.2.2.1, h.1, trivial⟩)), n0_16, (o21.weak (Sc.stab _) (fun _ h => ⟨h.2.1, h.2.2.1, h.1, trivial⟩)), n1_16, (o169.weak (Sc.stab _) (fun _ h => ⟨h.2.1, h.2.2.1, h.1, trivial⟩)), n173, q0_1_16, q170, q171, (i23_0.lift (Lift.sub (fun _ h => ⟨h.2.1, h.2.2.1, h.1, trivial⟩)))⟩
            · rintro s174 _ _ w175 ⟨s5_175, s6_175, s7_175, s10_175, s93_175, s94_175, s167_175, hE175, o0_175, n0_175, o1_175, n1_175, o2_175, n2_175, q0_1_175, q0_2_175, q1_2_175, i0_175⟩ H174 hr174
              refine W_seq ?_
              refine W_reg (by kernel_rfl) ?_
              refine wla rfl rfl (q_ltI rfl s94_175 s93_175) ?_
              refine wl_nil ?_
              refine W_th ?_
              refine W_seq ?_
              refine W_cond _ rfl rfl (fun hb176 => ?_) (fun hb176 => ?_)
              · replace H174 := (if_pos (of_decide_eq_true hb176)).symm.trans H174
                refine W_skip ?_
                refine W_th ?_
                refine W_seq ?_
                refine W_block ?_
                refine W_seq ?_
                refine W_reg (by kernel_rfl) ?_
                refine wla rfl rfl (q_move (v := (i64 s174.2)) rfl s94_175) ?_
                refine wla rfl rfl (q_assign (v := (i64 s174.2)) rfl rfl) ?_
                refine wl_nil ?_
                refine W_th ?_
                refine W_reg (by kernel_rfl) ?_
                refine wla rfl rfl (q_move (v := v169) rfl s10_175) ?_
                refine wla rfl rfl (q_move (v := (i64 s174.2)) rfl rfl) ?_
                refine wla rfl rfl (q_move (v := (i64 s174.2)) rfl rfl) ?_
                refine wla rfl rfl (q_cvt8I rfl rfl rfl rfl) ?_
                obtain ⟨c177, hc177, H174⟩ := Option.bind_eq_some_iff.1 H174
                refine wla rfl rfl (q_adr rfl T22 rfl rfl (o2_175.rd (Sc.stab _)) hc177) ?_
                refine wln rfl rfl (stp_store (R := (Sc u8)) (u := (u8 ((UInt8.ofInt s174.2)))) (Sc.stab _) [v5_16, v6_16] [] rfl T22 rfl rfl o2_175 (put_of ((UInt8.ofInt s174.2)) hc177) rfl rfl ?_)
                intro w178 o178 g178 l178
                replace i0_175 := i0_175.lift l178
                replace o0_175 := o0_175.other (Sc.stab _) g178 q0_2_175 l178
                replace o1_175 := o1_175.other (Sc.stab _) g178 q1_2_175 l178
                have e179 := hE175.grown g178 n2_175
                refine wl_nil ?_
                refine bk_n ?_
                refine W_th ?_
                refine W_reg (by kernel_rfl) ?_
                refine wla rfl rfl (q_addI rfl s94_175 rfl) ?_
                refine wla rfl rfl (q_move (v := (i64 ((wI (s174.2 + 1))))) rfl rfl) ?_
                refine wl_nil ?_
                obtain rfl := Option.some.inj H174
                exact ⟨_, rfl, s5_175, s6_175, s7_175, s10_175, s93_175, rfl, s167_175, e179, o0_175, n0_175, o1_175, n1_175, o178, n2_175, q0_1_175, q0_2_175, q1_2_175, i0_175⟩
              · replace H174 := (if_neg (of_decide_eq_false hb176)).symm.trans H174
                refine W_exit ?_
                refine th_x ?_
                obtain rfl := Option.some.inj H174
                obtain rfl := hr174 _ rfl
                refine th_x ?_
                refine bk_x ?_
                exact ⟨s5_175, s6_175, s7_175, s10_175, s167_175, hE175, o0_175, n0_175, o1_175, n1_175, o2_175, n2_175, q0_1_175, q0_2_175, q1_2_175, i0_175⟩
          · rintro _ w181 ⟨s5_181, s6_181, s7_181, s10_181, s167_181, hE181, o0_181, n0_181, o1_181, n1_181, o2_181, n2_181, q0_1_181, q0_2_181, q1_2_181, i0_181⟩
            refine W_th ?_
            refine W_seq ?_
            refine W_reg (by kernel_rfl) ?_
            refine wla rfl rfl (q_move (v := v23) rfl s7_181) ?_
            refine wla rfl rfl (q_move (v := v169) rfl s10_181) ?_
            obtain ⟨r182, hr182, H⟩ := Option.bind_eq_some_iff.1 H
            refine wls rfl rfl (stp_call (vs := [v23, v169]) Try.func30 rfl rfl rfl (ar2 rfl rfl) (poly_Vanish_calls r23 x174 v23 v169 r182 _ (i0_181.lift (Lift.sub (fun _ _ => trivial))) (o2_181.rd (Sc.stab _)) hr182) ?_)
            rintro _ w182 ⟨v182_0, rfl, x182, n182_0, o182_0⟩
            refine ⟨_, rfl, ?_⟩
            have i182_0 : By w182 [v5_16, v6_16, v169] v182_0 r182.1 := OwK.slk (Sc.stab _) _ (OwK.scal o182_0 (v182_0 :: [v5_16, v6_16, v169])) (fun k hk => (Old.cons (Old.cons (Old.cons (Old.nil _) o2_181.lt) o1_181.lt) o0_181.lt) k (n182_0 k hk)) (fun _ h => h.2)
            replace i0_181 := i0_181.lift (Lift.ext x182 _)
            replace o0_181 := o0_181.extL (Sc.stab _) x182 (Lift.ext x182 _)
            replace o1_181 := o1_181.extL (Sc.stab _) x182 (Lift.ext x182 _)
            replace o2_181 := o2_181.extL (Sc.stab _) x182 (Lift.ext x182 _)
            have e183 := hE181.trans x182
            refine wla rfl rfl (q_move (v := (.tuple #[v182_0, (i64 r182.2)])) rfl rfl) ?_
            refine wla rfl rfl (q_extract rfl rfl rfl) ?_
            refine wla rfl rfl (q_extract rfl rfl rfl) ?_
            refine wla rfl rfl (q_assign (v := v182_0) rfl rfl) ?_
            refine wla rfl rfl (q_assign (v := (i64 r182.2)) rfl rfl) ?_
            refine wl_nil ?_
            refine W_th ?_
            refine W_seq ?_
            refine W_reg (by kernel_rfl) ?_
            refine wla rfl rfl (q_move (v := v23) rfl s7_181) ?_
            refine wla rfl rfl (q_move (v := v169) rfl s10_181) ?_
            refine wls rfl rfl (stp_lit (L := [v5_16, v6_16, v169]) (R := (Sc u8)) [(u8 255)] ([(255 : UInt8)] : List UInt8) rfl T22 rfl (by exact ⟨rfl, (cst8 (255 : UInt8) rfl), trivial⟩) rfl (litC u8 (oneC_u8) (us := [(u8 255)]) (l := ([(255 : UInt8)] : List UInt8)) rfl) rfl (litS u8 (us := [(u8 255)]) (l := ([(255 : UInt8)] : List UInt8)) rfl) ?_)
            intro v184 w184 o184 n184 g184 l184
            have x184 := grown_ext g184
            have i184 : By w184 [v5_16, v6_16, v169] v184 (([(255 : UInt8)] : List UInt8)) := OwK.slk (Sc.stab _) _ o184 (fun k hk => (Old.cons (Old.cons (Old.cons (Old.nil _) o2_181.lt) o1_181.lt) o0_181.lt) k (n184 k hk)) (fun _ h => h.2)
            replace i0_181 := i0_181.lift (Lift.ext x184 _)
            replace i182_0 := i182_0.lift (Lift.ext x184 _)
            replace o0_181 := o0_181.extL (Sc.stab _) x184 (Lift.ext x184 _)
            replace o1_181 := o1_181.extL (Sc.stab _) x184 (Lift.ext x184 _)
            replace o2_181 := o2_181.extL (Sc.stab _) x184 (Lift.ext x184 _)
            have e185 := e183.trans x184
            obtain ⟨c186, hc186, H⟩ := Option.bind_eq_some_iff.1 H
            refine wls rfl rfl (stp_append (R := (Sc u8)) (v := v169) (u := v184) (Sc.stab _) [v5_16, v6_16] [] rfl T22 rfl rfl o2_181 i184 (fun _ _ h => h) hc186 oc_u8 ?_)
            intro v186 w186 o186 g186 nx186 l186
            replace i0_181 := i0_181.lift l186
            replace i182_0 := i182_0.lift l186
            replace i184 := i184.lift l186
            have q187 : Nq v5_16 v186 := o0_181.nxt q0_2_181 nx186
            have q188 : Nq v6_16 v186 := o1_181.nxt q1_2_181 nx186
            replace o0_181 := o0_181.other (Sc.stab _) g186 q0_2_181 l186
            replace o1_181 := o1_181.other (Sc.stab _) g186 q1_2_181 l186
            have e189 := e185.grown g186 n2_181
            have n190 := Nw.nxt e185 n2_181 nx186
            obtain ⟨r191, hr191, H⟩ := Option.bind_eq_some_iff.1 H
            refine wls rfl rfl (stp_call (vs := [v23, v186]) Try.func30 rfl rfl rfl (ar2 rfl rfl) (poly_Vanish_calls r23 c186 v23 v186 r191 _ (i0_181.lift (Lift.sub (fun _ _ => trivial))) (o186.rd (Sc.stab _)) hr191) ?_)
            rintro _ w191 ⟨v191_0, rfl, x191, n191_0, o191_0⟩
            refine ⟨_, rfl, ?_⟩
            have i191_0 : By w191 [v5_16, v6_16, v186] v191_0 r191.1 := OwK.slk (Sc.stab _) _ (OwK.scal o191_0 (v191_0 :: [v5_16, v6_16, v186])) (fun k hk => (Old.cons (Old.cons (Old.cons (Old.nil _) o186.lt) o1_181.lt) o0_181.lt) k (n191_0 k hk)) (fun _ h => h.2)
            replace i0_181 := i0_181.lift (Lift.ext x191 _)
            replace i182_0 := i182_0.lift (Lift.ext x191 _)
            replace i184 := i184.lift (Lift.ext x191 _)
            replace o0_181 := o0_181.extL (Sc.stab _) x191 (Lift.ext x191 _)
            replace o1_181 := o1_181.extL (Sc.stab _) x191 (Lift.ext x191 _)
            replace o186 := o186.extL (Sc.stab _) x191 (Lift.ext x191 _)
            have e192 := e189.trans x191
            refine wla rfl rfl (q_move (v := (.tuple #[v191_0, (i64 r191.2)])) rfl rfl) ?_
            refine wla rfl rfl (q_extract rfl rfl rfl) ?_
            refine wla rfl rfl (q_extract rfl rfl rfl) ?_
            refine wla rfl rfl (q_assign (v := v191_0) rfl rfl) ?_
            refine wla rfl rfl (q_assign (v := (i64 r191.2)) rfl rfl) ?_
            refine wl_nil ?_
            refine W_th ?_
            refine W_seq ?_
            refine W_reg (by kernel_rfl) ?_
            refine wls rfl rfl (stp_lit (L := [v5_16, v6_16, v186]) (R := (Sc u8)) [(u8 1)] ([(1 : UInt8)] : List UInt8) rfl T22 rfl (by exact ⟨rfl, (cst8 (1 : UInt8) rfl), trivial⟩) rfl (litC u8 (oneC_u8) (us := [(u8 1)]) (l := ([(1 : UInt8)] : List UInt8)) rfl) rfl (litS u8 (us := [(u8 1)]) (l := ([(1 : UInt8)] : List UInt8)) rfl) ?_)
            intro v193 w193 o193 n193 g193 l193
            have x193 := grown_ext g193
            have i193 : By w193 [v5_16, v6_16, v186] v193 (([(1 : UInt8)] : List UInt8)) := OwK.slk (Sc.stab _) _ o193 (fun k hk => (Old.cons (Old.cons (Old.cons (Old.nil _) o186.lt) o1_181.lt) o0_181.lt) k (n193 k hk)) (fun _ h => h.2)
            replace i0_181 := i0_181.lift (Lift.ext x193 _)
            replace i182_0 := i182_0.lift (Lift.ext x193 _)
            replace i184 := i184.lift (Lift.ext x193 _)
            replace i191_0 := i191_0.lift (Lift.ext x193 _)
            replace o0_181 := o0_181.extL (Sc.stab _) x193 (Lift.ext x193 _)
            replace o1_181 := o1_181.extL (Sc.stab _) x193 (Lift.ext x193 _)
            replace o186 := o186.extL (Sc.stab _) x193 (Lift.ext x193 _)
            have e194 := e192.trans x193
            refine wls rfl rfl (stp_lit (L := [v5_16, v6_16, v186]) (R := (Sc u8)) [(u8 1)] ([(1 : UInt8)] : List UInt8) rfl T22 rfl (by exact ⟨rfl, (cst8 (1 : UInt8) rfl), trivial⟩) rfl (litC u8 (oneC_u8) (us := [(u8 1)]) (l := ([(1 : UInt8)] : List UInt8)) rfl) rfl (litS u8 (us := [(u8 1)]) (l := ([(1 : UInt8)] : List UInt8)) rfl) ?_)
            intro v195 w195 o195 n195 g195 l195
            have x195 := grown_ext g195
            have i195 : By w195 [v5_16, v6_16, v186] v195 (([(1 : UInt8)] : List UInt8)) := OwK.slk (Sc.stab _) _ o195 (fun k hk => (Old.cons (Old.cons (Old.cons (Old.nil _) o186.lt) o1_181.lt) o0_181.lt) k (n195 k hk)) (fun _ h => h.2)
            replace i0_181 := i0_181.lift (Lift.ext x195 _)
            replace i182_0 := i182_0.lift (Lift.ext x195 _)
            replace i184 := i184.lift (Lift.ext x195 _)
            replace i191_0 := i191_0.lift (Lift.ext x195 _)
            replace i193 := i193.lift (Lift.ext x195 _)
            replace o0_181 := o0_181.extL (Sc.stab _) x195 (Lift.ext x195 _)
            replace o1_181 := o1_181.extL (Sc.stab _) x195 (Lift.ext x195 _)
            replace o186 := o186.extL (Sc.stab _) x195 (Lift.ext x195 _)
            have e196 := e194.trans x195
            obtain ⟨r197, hr197, H⟩ := Option.bind_eq_some_iff.1 H
            refine wls rfl rfl (stp_call (vs := [(.pointer none), v193, v195]) Try.func32 rfl rfl rfl (ar3 rfl rfl rfl) (poly_Through_calls false ([(1 : UInt8)] : List UInt8) ([(1 : UInt8)] : List UInt8) (.pointer none) v193 v195 r197 _ (Fd.nil _ _) (i193.lift (Lift.sub (fun _ _ => trivial))) (i195.lift (Lift.sub (fun _ _ => trivial))) hr197) ?_)
            rintro _ w197 ⟨v197_0, rfl, x197, n197_0, o197_0⟩
            refine ⟨_, rfl, ?_⟩
            have i197_0 : By w197 [v5_16, v6_16, v186] v197_0 r197.1 := OwK.slk (Sc.stab _) _ (OwK.scal o197_0 (v197_0 :: [v5_16, v6_16, v186])) (fun k hk => (Old.cons (Old.cons (Old.cons (Old.nil _) o186.lt) o1_181.lt) o0_181.lt) k (n197_0 k hk)) (fun _ h => h.2)
            replace i0_181 := i0_181.lift (Lift.ext x197 _)
            replace i182_0 := i182_0.lift (Lift.ext x197 _)
            replace i184 := i184.lift (Lift.ext x197 _)
            replace i191_0 := i191_0.lift (Lift.ext x197 _)
            replace i193 := i193.lift (Lift.ext x197 _)
            replace i195 := i195.lift (Lift.ext x197 _)
            replace o0_181 := o0_181.extL (Sc.stab _) x197 (Lift.ext x197 _)
            replace o1_181 := o1_181.extL (Sc.stab _) x197 (Lift.ext x197 _)
            replace o186 := o186.extL (Sc.stab _) x197 (Lift.ext x197 _)
            have e198 := e196.trans x197
            refine wla rfl rfl (q_move (v := (.tuple #[v197_0, (i64 r197.2)])) rfl rfl) ?_
            refine wla rfl rfl (q_extract rfl rfl rfl) ?_
            refine wla rfl rfl (q_extract rfl rfl rfl) ?_
            refine wla rfl rfl (q_assign (v := v197_0) rfl rfl) ?_
            refine wla rfl rfl (q_assign (v := (i64 r197.2)) rfl rfl) ?_
            refine wl_nil ?_
            refine W_th ?_
            refine W_seq ?_
            refine W_reg (by kernel_rfl) ?_
            obtain ⟨r199, hr199, H⟩ := Option.bind_eq_some_iff.1 H
            refine wls rfl rfl (stp_call (vs := [(.pointer none), (.slice none 0 0), (u8 1)]) Try.func31 rfl rfl rfl (ar3 rfl rfl (cst8 (1 : UInt8) rfl)) (poly_Weights_calls false ([] : List UInt8) (1 : UInt8) (.pointer none) (.slice none 0 0) r199 _ (Fd.nil _ _) (SlK.nil _ _ _) hr199) ?_)
            rintro _ w199 ⟨v199_0, rfl, x199, n199_0, o199_0⟩
            refine ⟨_, rfl, ?_⟩
            have i199_0 : By w199 [v5_16, v6_16, v186] v199_0 r199.1 := OwK.slk (Sc.stab _) _ (OwK.scal o199_0 (v199_0 :: [v5_16, v6_16, v186])) (fun k hk => (Old.cons (Old.cons (Old.cons (Old.nil _) o186.lt) o1_181.lt) o0_181.lt) k (n199_0 k hk)) (fun _ h => h.2)
            replace i0_181 := i0_181.lift (Lift.ext x199 _)
            replace i182_0 := i182_0.lift (Lift.ext x199 _)
            replace i184 := i184.lift (Lift.ext x199 _)
            replace i191_0 := i191_0.lift (Lift.ext x199 _)
            replace i193 := i193.lift (Lift.ext x199 _)
            replace i195 := i195.lift (Lift.ext x199 _)
            replace i197_0 := i197_0.lift (Lift.ext x199 _)
            replace o0_181 := o0_181.extL (Sc.stab _) x199 (Lift.ext x199 _)
            replace o1_181 := o1_181.extL (Sc.stab _) x199 (Lift.ext x199 _)
            replace o186 := o186.extL (Sc.stab _) x199 (Lift.ext x199 _)
            have e200 := e198.trans x199
            refine wla rfl rfl (q_move (v := (.tuple #[v199_0, (i64 r199.2)])) rfl rfl) ?_
            refine wla rfl rfl (q_extract rfl rfl rfl) ?_
            refine wla rfl rfl (q_extract rfl rfl rfl) ?_
            refine wla rfl rfl (q_assign (v := v199_0) rfl rfl) ?_
            refine wla rfl rfl (q_assign (v := (i64 r199.2)) rfl rfl) ?_
            refine wl_nil ?_
            refine W_th ?_
            refine W_seq ?_
            refine W_reg (by kernel_rfl) ?_
            refine wla rfl rfl (q_move (v := v5_16) rfl s5_181) ?_
            refine wla rfl rfl (q_move (v := v6_16) rfl s6_181) ?_
            obtain ⟨r201, hr201, H⟩ := Option.bind_eq_some_iff.1 H
            refine wls rfl rfl (stp_call (vs := [(.pointer none), v5_16, v6_16]) Try.func19 rfl rfl rfl (ar3 rfl rfl rfl) (poly_Mul_calls false (x4.1.set ((wI ((wI (1 + (wI ((((UInt64.ofInt a0n) % (256 : UInt64))).toNat : Int)))) - 1)) : Int).toNat ((1 : UInt8))) (x4.2.set ((wI ((wI (1 + (wI ((((UInt64.ofInt a1m) % (256 : UInt64))).toNat : Int)))) - 1)) : Int).toNat ((1 : UInt8))) (.pointer none) v5_16 v6_16 r201 _ (Fd.nil _ _) (o0_181.rd (Sc.stab _)) (o1_181.rd (Sc.stab _)) hr201) ?_)
            rintro _ w201 ⟨v201_0, rfl, x201, n201_0, o201_0⟩
            refine ⟨_, rfl, ?_⟩
            have i201_0 : By w201 [v5_16, v6_16, v186] v201_0 r201.1 := OwK.slk (Sc.stab _) _ (OwK.scal o201_0 (v201_0 :: [v5_16, v6_16, v186])) (fun k hk => (Old.cons (Old.cons (Old.cons (Old.nil _) o186.lt) o1_181.lt) o0_181.lt) k (n201_0 k hk)) (fun _ h => h.2)
            replace i0_181 := i0_181.lift (Lift.ext x201 _)
            replace i182_0 := i182_0.lift (Lift.ext x201 _)
            replace i184 := i184.lift (Lift.ext x201 _)
            replace i191_0 := i191_0.lift (Lift.ext x201 _)
            replace i193 := i193.lift (Lift.ext x201 _)
            replace i195 := i195.lift (Lift.ext x201 _)
            replace i197_0 := i197_0.lift (Lift.ext x201 _)
            replace i199_0 := i199_0.lift (Lift.ext x201 _)
            replace o0_181 := o0_181.extL (Sc.stab _) x201 (Lift.ext x201 _)
            replace o1_181 := o1_181.extL (Sc.stab _) x201 (Lift.ext x201 _)
            replace o186 := o186.extL (Sc.stab _) x201 (Lift.ext x201 _)
            have e202 := e200.trans x201
            refine wla rfl rfl (q_move (v := (.tuple #[v201_0, (i64 r201.2)])) rfl rfl) ?_
            refine wla rfl rfl (q_extract rfl rfl rfl) ?_
            refine wla rfl rfl (q_extract rfl rfl rfl) ?_
            refine wla rfl rfl (q_assign (v := v201_0) rfl rfl) ?_
            refine wla rfl rfl (q_assign (v := (i64 r201.2)) rfl rfl) ?_
            refine wl_nil ?_
            refine W_th ?_
            refine W_seq ?_
            refine W_reg (by kernel_rfl) ?_
            refine wla rfl rfl (q_move (v := v5_16) rfl s5_181) ?_
            refine wla rfl rfl (q_move (v := v6_16) rfl s6_181) ?_
            obtain ⟨r203, hr203, H⟩ := Option.bind_eq_some_iff.1 H
            refine wls rfl rfl (stp_call (vs := [(.pointer none), v5_16, v6_16]) Try.func29 rfl rfl rfl (ar3 rfl rfl rfl) (poly_DivMod_calls false (x4.1.set ((wI ((wI (1 + (wI ((((UInt64.ofInt a0n) % (256 : UInt64))).toNat : Int)))) - 1)) : Int).toNat ((1 : UInt8))) (x4.2.set ((wI ((wI (1 + (wI ((((UInt64.ofInt a1m) % (256 : UInt64))).toNat : Int)))) - 1)) : Int).toNat ((1 : UInt8))) (.pointer none) v5_16 v6_16 r203 _ (Fd.nil _ _) (o0_181.rd (Sc.stab _)) (o1_181.rd (Sc.stab _)) hr203) ?_)
            rintro _ w203 ⟨v203_0, v203_1, rfl, x203, n203_0, o203_0, n203_1, o203_1⟩
            refine ⟨_, rfl, ?_⟩
            have i203_0 : By w203 [v5_16, v6_16, v186] v203_0 r203.1 := OwK.slk (Sc.stab _) _ (OwK.scal o203_0 (v203_0 :: [v5_16, v6_16, v186])) (fun k hk => (Old.cons (Old.cons (Old.cons (Old.nil _) o186.lt) o1_181.lt) o0_181.lt) k (n203_0 k hk)) (fun _ h => h.2)
            have i203_1 : By w203 [v5_16, v6_16, v186] v203_1 r203.2.1 := OwK.slk (Sc.stab _) _ (OwK.scal o203_1 (v203_1 :: [v5_16, v6_16, v186])) (fun k hk => (Old.cons (Old.cons (Old.cons (Old.nil _) o186.lt) o1_181.lt) o0_181.lt) k (n203_1 k hk)) (fun _ h => h.2)
            replace i0_181 := i0_181.lift (Lift.ext x203 _)
            replace i182_0 := i182_0.lift (Lift.ext x203 _)
            replace i184 := i184.lift (Lift.ext x203 _)
            replace i191_0 := i191_0.lift (Lift.ext x203 _)
            replace i193 := i193.lift (Lift.ext x203 _)
            replace i195 := i195.lift (Lift.ext x203 _)
            replace i197_0 := i197_0.lift (Lift.ext x203 _)
            replace i199_0 := i199_0.lift (Lift.ext x203 _)
            replace i201_0 := i201_0.lift (Lift.ext x203 _)
            replace o0_181 := o0_181.extL (Sc.stab _) x203 (Lift.ext x203 _)
            replace o1_181 := o1_181.extL (Sc.stab _) x203 (Lift.ext x203 _)
            replace o186 := o186.extL (Sc.stab _) x203 (Lift.ext x203 _)
            have e204 := e202.trans x203
            refine wla rfl rfl (q_move (v := (.tuple #[v203_0, v203_1, (i64 r203.2.2)])) rfl rfl) ?_
            refine wla rfl rfl (q_extract rfl rfl rfl) ?_
            refine wla rfl rfl (q_extract rfl rfl rfl) ?_
            refine wla rfl rfl (q_extract rfl rfl rfl) ?_
            refine wla rfl rfl (q_assign (v := v203_0) rfl rfl) ?_
            refine wla rfl rfl (q_assign (v := v203_1) rfl rfl) ?_
            refine wla rfl rfl (q_assign (v := (i64 r203.2.2)) rfl rfl) ?_
            refine wl_nil ?_
            refine W_th ?_
            refine W_seq ?_
            refine W_reg (by kernel_rfl) ?_
            refine wla rfl rfl (q_move (v := (i64 r182.2)) rfl rfl) ?_
            refine wla rfl rfl (q_eqI rfl rfl rfl) ?_
            refine wlb rfl rfl (q_move (v := (.bool ((decide (r182.2 = 0))))) rfl rfl) (fun hb205 => ?_) (fun hb205 => ?_)
            · replace H := (if_pos (of_decide_eq_true hb205)).symm.trans H
              refine wla rfl rfl (q_move (v := v182_0) rfl rfl) ?_
              refine wla rfl rfl (q_len rfl T22.sl rfl i182_0) ?_
              refine wla rfl rfl (q_eqI rfl rfl rfl) ?_
              refine wla rfl rfl (q_pick_t (v := (.bool ((decide ((r182.1.length : Int) = 256))))) rfl rfl rfl) ?_
              refine wlb rfl rfl (q_move (v := (.bool ((decide ((r182.1.length : Int) = 256))))) rfl rfl) (fun hb206 => ?_) (fun hb206 => ?_)
              · replace H := (if_pos (of_decide_eq_true hb206)).symm.trans H
                refine wla rfl rfl (q_move (v := (i64 r191.2)) rfl rfl) ?_
                refine wla rfl rfl (q_eqI rfl rfl rfl) ?_
                refine wla rfl rfl (q_pick_t (v := (.bool ((decide (r191.2 = 4))))) rfl rfl rfl) ?_
                refine wlb rfl rfl (q_move (v := (.bool ((decide (r191.2 = 4))))) rfl rfl) (fun hb207 => ?_) (fun hb207 => ?_)
                · replace H := (if_pos (of_decide_eq_true hb207)).symm.trans H
                  refine wla rfl rfl (q_move (v := (i64 r197.2)) rfl rfl) ?_
                  refine wla rfl rfl (q_eqI rfl rfl rfl) ?_
                  refine wla rfl rfl (q_pick_t (v := (.bool ((decide (r197.2 = 1))))) rfl rfl rfl) ?_
                  refine wlb rfl rfl (q_move (v := (.bool ((decide (r197.2 = 1))))) rfl rfl) (fun hb208 => ?_) (fun hb208 => ?_)
                  · replace H := (if_pos (of_decide_eq_true hb208)).symm.trans H
                    refine wla rfl rfl (q_move (v := (i64 r199.2)) rfl rfl) ?_
                    refine wla rfl rfl (q_eqI rfl rfl rfl) ?_
                    refine wla rfl rfl (q_pick_t (v := (.bool ((decide (r199.2 = 1))))) rfl rfl rfl) ?_
                    refine wlb rfl rfl (q_move (v := (.bool ((decide (r199.2 = 1))))) rfl rfl) (fun hb209 => ?_) (fun hb209 => ?_)
                    · replace H := (if_pos (of_decide_eq_true hb209)).symm.trans H
                      refine wla rfl rfl (q_move (v := (i64 r201.2)) rfl rfl) ?_
                      refine wla rfl rfl (q_eqI rfl rfl rfl) ?_
                      refine wla rfl rfl (q_pick_t (v := (.bool ((decide (r201.2 = 1))))) rfl rfl rfl) ?_
                      refine wlb rfl rfl (q_move (v := (.bool ((decide (r201.2 = 1))))) rfl rfl) (fun hb210 => ?_) (fun hb210 => ?_)
                      · replace H := (if_pos (of_decide_eq_true hb210)).symm.trans H
                        refine wla rfl rfl (q_move (v := (i64 r203.2.2)) rfl rfl) ?_
                        refine wla rfl rfl (q_eqI rfl rfl rfl) ?_
                        refine wla rfl rfl (q_pick_t (v := (.bool ((decide (r203.2.2 = 1))))) rfl rfl rfl) ?_
                        refine wla rfl rfl (q_assign (v := (.bool ((decide (r203.2.2 = 1))))) rfl rfl) ?_
                        refine wl_nil ?_
                        refine W_th ?_
                        refine W_ret ?_
                        obtain rfl := Option.some.inj H
                        refine rt1 (.bool ((decide (r203.2.2 = 1)))) rfl rfl rfl s167_181 ?_
                        exact ⟨rfl, e204⟩
                      · replace H := (if_neg (of_decide_eq_false hb210)).symm.trans H
                        refine wlk rfl rfl ?_
                        refine wlk rfl rfl ?_
                        refine wla rfl rfl (q_pick_f (v := (.bool false)) rfl rfl rfl) ?_
                        refine wla rfl rfl (q_assign (v := (.bool false)) rfl rfl) ?_
                        refine wl_nil ?_
                        refine W_th ?_
                        refine W_ret ?_
                        obtain rfl := Option.some.inj H
                        refine rt1 (.bool false) rfl rfl rfl s167_181 ?_
                        exact ⟨rfl, e204⟩
                    · replace H := (if_neg (of_decide_eq_false hb209)).symm.trans H
                      refine wlk rfl rfl ?_
                      refine wlk rfl rfl ?_
                      refine wla rfl rfl (q_pick_f (v := (.bool false)) rfl rfl rfl) ?_
                      refine wla rfl rfl (q_move (v := (.bool false)) rfl rfl) ?_
                      refine wlk rfl rfl ?_
                      refine wlk rfl rfl ?_
                      refine wla rfl rfl (q_pick_f (v := (.bool false)) rfl rfl rfl) ?_
                      refine wla rfl rfl (q_assign (v := (.bool false)) rfl rfl) ?_
                      refine wl_nil ?_
                      refine W_th ?_
                      refine W_ret ?_
                      obtain rfl := Option.some.inj H
                      refine rt1 (.bool false) rfl rfl rfl s167_181 ?_
                      exact ⟨rfl, e204⟩
                  · replace H := (if_neg (of_decide_eq_false hb208)).symm.trans H
                    refine wlk rfl rfl ?_
                    refine wlk rfl rfl ?_
                    refine wla rfl rfl (q_pick_f (v := (.bool false)) rfl rfl rfl) ?_
                    refine wla rfl rfl (q_move (v := (.bool false)) rfl rfl) ?_
                    refine wlk rfl rfl ?_
                    refine wlk rfl rfl ?_
                    refine wla rfl rfl (q_pick_f (v := (.bool false)) rfl rfl rfl) ?_
                    refine wla rfl rfl (q_move (v := (.bool false)) rfl rfl) ?_
                    refine wlk rfl rfl ?_
                    refine wlk rfl rfl ?_
                    refine wla rfl rfl (q_pick_f (v := (.bool false)) rfl rfl rfl) ?_
                    refine wla rfl rfl (q_assign (v := (.bool false)) rfl rfl) ?_
                    refine wl_nil ?_
                    refine W_th ?_
                    refine W_ret ?_
                    obtain rfl := Option.some.inj H
                    refine rt1 (.bool false) rfl rfl rfl s167_181 ?_
                    exact ⟨rfl, e204⟩
                · replace H := (if_neg (of_decide_eq_false hb207)).symm.trans H
                  refine wlk rfl rfl ?_
                  refine wlk rfl rfl ?_
                  refine wla rfl rfl (q_pick_f (v := (.bool false)) rfl rfl rfl) ?_
                  refine wla rfl rfl (q_move (v := (.bool false)) rfl rfl) ?_
                  refine wlk rfl rfl ?_
                  refine wlk rfl rfl ?_
                  refine wla rfl rfl (q_pick_f (v := (.bool false)) rfl rfl rfl) ?_
                  refine wla rfl rfl (q_move (v := (.bool false)) rfl rfl) ?_
                  refine wlk rfl rfl ?_
                  refine wlk rfl rfl ?_
                  refine wla rfl rfl (q_pick_f (v := (.bool false)) rfl rfl rfl) ?_
                  refine wla rfl rfl (q_move (v := (.bool false)) rfl rfl) ?_
                  refine wlk rfl rfl ?_
                  refine wlk rfl rfl ?_
                  refine wla rfl rfl (q_pick_f (v := (.bool false)) rfl rfl rfl) ?_
                  refine wla rfl rfl (q_assign (v := (.bool false)) rfl rfl) ?_
                  refine wl_nil ?_
                  refine W_th ?_
                  refine W_ret ?_
                  obtain rfl := Option.some.inj H
                  refine rt1 (.bool false) rfl rfl rfl s167_181 ?_
                  exact ⟨rfl, e204⟩
              · replace H := (if_neg (of_decide_eq_false hb206)).symm.trans H
                refine wlk rfl rfl ?_
                refine wlk rfl rfl ?_
                refine wla rfl rfl (q_pick_f (v := (.bool false)) rfl rfl rfl) ?_
                refine wla rfl rfl (q_move (v := (.bool false)) rfl rfl) ?_
                refine wlk rfl rfl ?_
                refine wlk rfl rfl ?_
                refine wla rfl rfl (q_pick_f (v := (.bool false)) rfl rfl rfl) ?_
                refine wla rfl rfl (q_move (v := (.bool false)) rfl rfl) ?_
                refine wlk rfl rfl ?_
                refine wlk rfl rfl ?_
                refine wla rfl rfl (q_pick_f (v := (.bool false)) rfl rfl rfl) ?_
                refine wla rfl rfl (q_move (v := (.bool false)) rfl rfl) ?_
                refine wlk rfl rfl ?_
                refine wlk rfl rfl ?_
                refine wla rfl rfl (q_pick_f (v := (.bool false)) rfl rfl rfl) ?_
                refine wla rfl rfl (q_move (v := (.bool false)) rfl rfl) ?_
                refine wlk rfl rfl ?_
                refine wlk rfl rfl ?_
                refine wla rfl rfl (q_pick_f (v := (.bool false)) rfl rfl rfl) ?_
                refine wla rfl rfl (q_assign (v := (.bool false)) rfl rfl) ?_
                refine wl_nil ?_
                refine W_th ?_
                refine W_ret ?_
                obtain rfl := Option.some.inj H
                refine rt1 (.bool false) rfl rfl rfl s167_181 ?_
                exact ⟨rfl, e204⟩
            · replace H := (if_neg (of_decide_eq_false hb205)).symm.trans H
              refine wlk rfl rfl ?_
              refine wlk rfl rfl ?_
              refine wlk rfl rfl ?_
              refine wla rfl rfl (q_pick_f (v := (.bool false)) rfl rfl rfl) ?_
              refine wla rfl rfl (q_move (v := (.bool false)) rfl rfl) ?_
              refine wlk rfl rfl ?_
              refine wlk rfl rfl ?_
              refine wla rfl rfl (q_pick_f (v := (.bool false)) rfl rfl rfl) ?_
              refine wla rfl rfl (q_move (v := (.bool false)) rfl rfl) ?_
              refine wlk rfl rfl ?_
              refine wlk rfl rfl ?_
              refine wla rfl rfl (q_pick_f (v := (.bool false)) rfl rfl rfl) ?_
              refine wla rfl rfl (q_move (v := (.bool false)) rfl rfl) ?_
              refine wlk rfl rfl ?_
              refine wlk rfl rfl ?_
              refine wla rfl rfl (q_pick_f (v := (.bool false)) rfl rfl rfl) ?_
              refine wla rfl rfl (q_move (v := (.bool false)) rfl rfl) ?_
              refine wlk rfl rfl ?_
              refine wlk rfl rfl ?_
              refine wla rfl rfl (q_pick_f (v := (.bool false)) rfl rfl rfl) ?_
              refine wla rfl rfl (q_move (v := (.bool false)) rfl rfl) ?_
              refine wlk rfl rfl ?_
              refine wlk rfl rfl ?_
              refine wla rfl rfl (q_pick_f (v := (.bool false)) rfl rfl rfl) ?_
              refine wla rfl rfl (q_assign (v := (.bool false)) rfl rfl) ?_
              refine wl_nil ?_
              refine W_th ?_
              refine W_ret ?_
              obtain rfl := Option.some.inj H
              refine rt1 (.bool false) rfl rfl rfl s167_181 ?_
              exact ⟨rfl, e204⟩

end Gk
