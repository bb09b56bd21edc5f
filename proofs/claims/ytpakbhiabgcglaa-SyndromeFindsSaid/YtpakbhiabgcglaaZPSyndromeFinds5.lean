/- Parts LAd, LAe, F30, LAb, LAc, Mc, Md, Mp, Mv, Mz, one behind the other. What is proved: said at the head of each part. No condition beside those said there. -/
import Derived.Test.YtpakbhiabgcglaaRows
import Derived.Orders
import Derived.Deep.Draws
import Derived.Laws.World
import Derived.KernelRfl
import Derived.OrdersIn
import Derived.TacticsIn
import Derived.RangeFuncCalls
import Derived.Deep.LoopGhost
import Derived.Tactics
import Derived.Sort.LoopGhostIn
import Derived.RangeFuncLeaves
import Derived.RangeFuncNested
import Derived.RangeFuncRecord
import Derived.Laws.Sem
import Derived.OwnWalk
import Derived.RangeFuncWrites
import Derived.Laws.IdiomCopy
import Derived.WalkKit
import Derived.ProofKit
import Derived.OpenShut
import Derived.ChangeOld
import Derived.Below
import Derived.Test.YtpakbhiabgcglaaProg
import Derived.MapKept
import Derived.Lib.AppendZerosOnto
import Derived.Test.YtpakbhiabgcglaaZPSyndromeFinds1
import Derived.Test.YtpakbhiabgcglaaZPSyndromeFinds2
import Derived.Test.YtpakbhiabgcglaaZPSyndromeFinds3
import Derived.Test.YtpakbhiabgcglaaZPSyndromeFinds4
/- Printed by gen.py: for each Go function a pure function, and that the Go code comes to it. No condition beside the equation that says what the pure function gives. -/

set_option linter.unusedVariables false
set_option linter.unusedSimpArgs false
namespace Gk
open Go Go.Proofs

/-! largesse/largesselaw30.SyndromeFinds -/
noncomputable def law30_SyndromeFinds (a0t : Int) (a1more : Int) (a2p : List UInt8) (a3xs : List UInt8) (a4where : List UInt8) (a5by : List UInt8) : Option Bool :=
((law30_lives ).bind fun r1 =>
(if (!r1) = true then
((law30_lives ).bind fun r4 => some r4)
else
(if 20 < (a4where.length : Int) then
((law30_lives ).bind fun r7 => some r7)
else
((field_New ).bind fun r9 =>
((law08_Unlike a3xs (wI ((wI (1 + (wI ((((UInt64.ofInt a0t) % (6 : UInt64))).toNat : Int)))) + (wI ((((UInt64.ofInt a1more) % (11 : UInt64))).toNat : Int))))).bind fun r11 =>
((subL a2p 0 ((if (wI (1 + (wI ((((UInt64.ofInt a0t) % (6 : UInt64))).toNat : Int)))) < (a2p.length : Int) then (wI (1 + (wI ((((UInt64.ofInt a0t) % (6 : UInt64))).toNat : Int)))) else (a2p.length : Int)))).bind fun c13 =>
((iterC (fun s17 : (List (Int × UInt8)) × Int =>
(if s17.2 < (a4where.length : Int) then
((idx a4where s17.2).bind fun c20 =>
((divI ((wI ((wI ((wI (1 + (wI ((((UInt64.ofInt a0t) % (6 : UInt64))).toNat : Int)))) + (wI ((((UInt64.ofInt a1more) % (11 : UInt64))).toNat : Int)))) - (wI (1 + (wI ((((UInt64.ofInt a0t) % (6 : UInt64))).toNat : Int))))))) 2).bind fun c21 =>
(if (s17.1.length : Int) < c21 then
(if s17.2 < (a5by.length : Int) then
((idx a5by s17.2).bind fun c24 =>
(if c24 = (0 : UInt8) then some (.inl (s17.1, (wI (s17.2 + 1))))
else
((remI ((c20.toNat : Int)) ((wI ((wI (1 + (wI ((((UInt64.ofInt a0t) % (6 : UInt64))).toNat : Int)))) + (wI ((((UInt64.ofInt a1more) % (11 : UInt64))).toNat : Int)))))).bind fun c26 =>
(if (mgetJ s17.1 c26) = (0 : UInt8) then
((idx a5by s17.2).bind fun c28 => some (.inl ((mputJ s17.1 c26 c28), (wI (s17.2 + 1)))))
else some (.inl (s17.1, (wI (s17.2 + 1))))))))
else some (.inl (s17.1, (wI (s17.2 + 1)))))
else some (.inl (s17.1, (wI (s17.2 + 1)))))))
else some (.inr s17.1))) (([] : List (Int × UInt8)), 0)).bind fun x17 =>
((iterC (fun s33 : List UInt8 × Int =>
(if s33.2 < (r11.length : Int) then
((idx r11 s33.2).bind fun c36 =>
((poly_Eval r9 c13 c36).bind fun r39 =>
((appL s33.1 (([(r39 ^^^ (mgetJ x17 s33.2))] : List UInt8))).bind fun c43 => some (.inl (c43, (wI (s33.2 + 1)))))))
else some (.inr s33.1))) (([] : List UInt8), 0)).bind fun x33 =>
((syndrome_Syndromes r9 (wI (1 + (wI ((((UInt64.ofInt a0t) % (6 : UInt64))).toNat : Int)))) r11 x33).bind fun r49 =>
((syndrome_Locator r9 r49.1).bind fun r51 =>
((syndrome_Located r9 r51.1 r11).bind fun r53 =>
((syndrome_Values r9 r49.1 r51.1 r11 r53).bind fun r55 =>
(if r49.2 = 0 then
(if r51.2 = 0 then
(if r55.2 = 0 then
(if (r53.length : Int) = (x17.length : Int) then
(if (r55.1.length : Int) = (x17.length : Int) then
((iterC (fun s62 : Int =>
(if s62 < (r53.length : Int) then
((idx r53 s62).bind fun c65 =>
(if (mgetJ x17 c65) = (0 : UInt8) then some (.inr (.inr false))
else
((idx r55.1 s62).bind fun c69 =>
(if c69 = (mgetJ x17 c65) then
(if 0 < s62 then
((idx r53 ((wI (s62 - 1)))).bind fun c72 =>
(if c65 ≤ c72 then some (.inr (.inr false))
else some (.inl (wI (s62 + 1)))))
else some (.inl (wI (s62 + 1))))
else some (.inr (.inr false))))))
else some (.inr (.inl ())))) 0).bind (Sum.elim (fun y62 =>
((syndrome_Values r9 r49.1 r51.1 r11 ([(wI ((wI (1 + (wI ((((UInt64.ofInt a0t) % (6 : UInt64))).toNat : Int)))) + (wI ((((UInt64.ofInt a1more) % (11 : UInt64))).toNat : Int))))] : List Int)).bind fun r78 =>
((syndrome_Values false r49.1 r51.1 r11 ([] : List Int)).bind fun r80 =>
((syndrome_Values r9 r49.1 ([(1 : UInt8)] : List UInt8) r11 ([0] : List Int)).bind fun r86 =>
(if r78.2 = 2 then
(if r80.2 = 1 then
(if r86.2 = 7 then
((syndrome_Located r9 r51.1 ([(0 : UInt8)] : List UInt8)).bind fun r93 => some (decide ((r93.length : Int) = 0)))
else some false)
else some false)
else some false))))) (fun q62 => some q62)))
else some false)
else some false)
else some false)
else some false)
else some false)))))))))))))
set_option maxRecDepth 100000 in
set_option maxHeartbeats 8000000 in
theorem law30_SyndromeFinds_calls (a0t : Int) (a1more : Int) (a2p : List UInt8) (a3xs : List UInt8) (a4where : List UInt8) (a5by : List UInt8) (p2 : Value) (p3 : Value) (p4 : Value) (p5 : Value) (r : Bool) (w0 : World) (hp2 : By w0 [] p2 a2p) (hp3 : By w0 [] p3 a3xs) (hp4 : By w0 [] p4 a4where) (hp5 : By w0 [] p5 a5by) (H : law30_SyndromeFinds a0t a1more a2p a3xs a4where a5by = some r) :
    Calls Try.prog 7 [(i64 a0t), (i64 a1more), p2, p3, p4, p5].toArray w0 (fun e w' => e = .returned (.bool r) ∧ Ext w0 w') := by
  have hE : Ext w0 w0 := Ext.refl w0
  unfold law30_SyndromeFinds at H
  refine calls_W (n := 259) Try.func7 rfl rfl rfl ?_
  refine W_seq ?_
  refine W_reg (by kernel_rfl) ?_
  refine wla rfl rfl (q_assign (v := (.bool false)) rfl rfl) ?_
  refine wl_nil ?_
  refine W_th ?_
  refine W_seq ?_
  refine W_seq ?_
  refine W_reg (by kernel_rfl) ?_
  obtain ⟨r1, hr1, H⟩ := Option.bind_eq_some_iff.1 H
  refine wls rfl rfl (stp_call (vs := []) Try.func24 rfl rfl rfl (ar0 ) (law30_lives_calls   r1 _  hr1) ?_)
  rintro _ w1 ⟨rfl, x1⟩
  refine ⟨_, rfl, ?_⟩
  have e2 := hE.trans x1
  refine wla rfl rfl (q_not rfl rfl) ?_
  refine wlb rfl rfl (q_move (v := (.bool ((!r1)))) rfl rfl) (fun hb3 => ?_) (fun hb3 => ?_)
  · replace H := (if_pos hb3).symm.trans H
    refine wlk rfl rfl ?_
    refine wlk rfl rfl ?_
    refine wlk rfl rfl ?_
    refine wla rfl rfl (q_pick_t (v := (.bool true)) rfl rfl rfl) ?_
    refine wl_nil ?_
    refine W_th ?_
    refine W_cond true rfl rfl (fun _ => ?_) (fun hb => by cases hb)
    refine W_seq ?_
    refine W_reg (by kernel_rfl) ?_
    obtain ⟨r4, hr4, H⟩ := Option.bind_eq_some_iff.1 H
    refine wls rfl rfl (stp_call (vs := []) Try.func24 rfl rfl rfl (ar0 ) (law30_lives_calls   r4 _  hr4) ?_)
    rintro _ w4 ⟨rfl, x4⟩
    refine ⟨_, rfl, ?_⟩
    have e5 := e2.trans x4
    refine wla rfl rfl (q_assign (v := (.bool r4)) rfl rfl) ?_
    refine wl_nil ?_
    refine W_th ?_
    refine W_ret ?_
    refine th_r ?_
    obtain rfl := Option.some.inj H
    refine rt1 (.bool r4) rfl rfl rfl rfl ?_
    exact ⟨rfl, e5⟩
  · replace H := (if_neg (ne_true_of_eq_false hb3)).symm.trans H
    refine wla rfl rfl (q_move (v := p4) rfl rfl) ?_
    refine wla rfl rfl (q_len rfl T22.sl rfl (hp4.lift (Lift.ext e2 _))) ?_
    refine wla rfl rfl (q_gtI rfl rfl rfl) ?_
    refine wla rfl rfl (q_pick_f (v := (.bool ((decide (20 < (a4where.length : Int)))))) rfl rfl rfl) ?_
    refine wl_nil ?_
    refine W_th ?_
    refine W_cond _ rfl rfl (fun hb6 => ?_) (fun hb6 => ?_)
    · replace H := (if_pos (of_decide_eq_true hb6)).symm.trans H
      refine W_seq ?_
      refine W_reg (by kernel_rfl) ?_
      obtain ⟨r7, hr7, H⟩ := Option.bind_eq_some_iff.1 H
      refine wls rfl rfl (stp_call (vs := []) Try.func24 rfl rfl rfl (ar0 ) (law30_lives_calls   r7 _  hr7) ?_)
      rintro _ w7 ⟨rfl, x7⟩
      refine ⟨_, rfl, ?_⟩
      have e8 := e2.trans x7
      refine wla rfl rfl (q_assign (v := (.bool r7)) rfl rfl) ?_
      refine wl_nil ?_
      refine W_th ?_
      refine W_ret ?_
      refine th_r ?_
      obtain rfl := Option.some.inj H
      refine rt1 (.bool r7) rfl rfl rfl rfl ?_
      exact ⟨rfl, e8⟩
    · replace H := (if_neg (of_decide_eq_false hb6)).symm.trans H
      refine W_skip ?_
      refine W_th ?_
      refine W_seq ?_
      refine W_reg (by kernel_rfl) ?_
      obtain ⟨r9, hr9, H⟩ := Option.bind_eq_some_iff.1 H
      refine wls rfl rfl (stp_call (vs := []) Try.func12 rfl rfl rfl (ar0 ) (field_New_calls   r9 _ [] (Old.nil _)  hr9) ?_)
      rintro _ w9 ⟨v9, rfl, x9, i9_0⟩
      refine ⟨_, rfl, ?_⟩
      have e10 := e2.trans x9
      refine wla rfl rfl (q_assign (v := v9) rfl rfl) ?_
      refine wl_nil ?_
      refine W_th ?_
      refine W_seq ?_
      refine W_reg (by kernel_rfl) ?_
      refine wla rfl rfl (q_move (v := (i64 a0t)) rfl rfl) ?_
      refine wla rfl rfl (q_cvt64I rfl rfl rfl rfl) ?_
      refine wla rfl rfl (q_rem64 rfl rfl (cst64 (6 : UInt64) rfl) (by decide)) ?_
      refine wla rfl rfl (q_cvtI64 rfl rfl rfl rfl) ?_
      refine wla rfl rfl (q_addI rfl rfl rfl) ?_
      refine wla rfl rfl (q_assign (v := (i64 ((wI (1 + (wI ((((UInt64.ofInt a0t) % (6 : UInt64))).toNat : Int))))))) rfl rfl) ?_
      refine wl_nil ?_
      refine W_th ?_
      refine W_seq ?_
      refine W_reg (by kernel_rfl) ?_
      refine wla rfl rfl (q_move (v := (i64 ((wI (1 + (wI ((((UInt64.ofInt a0t) % (6 : UInt64))).toNat : Int))))))) rfl rfl) ?_
      refine wla rfl rfl (q_move (v := (i64 a1more)) rfl rfl) ?_
      refine wla rfl rfl (q_cvt64I rfl rfl rfl rfl) ?_
      refine wla rfl rfl (q_rem64 rfl rfl (cst64 (11 : UInt64) rfl) (by decide)) ?_
      refine wla rfl rfl (q_cvtI64 rfl rfl rfl rfl) ?_
      refine wla rfl rfl (q_addI rfl rfl rfl) ?_
      refine wla rfl rfl (q_assign (v := (i64 ((wI ((wI (1 + (wI ((((UInt64.ofInt a0t) % (6 : UInt64))).toNat : Int)))) + (wI ((((UInt64.ofInt a1more) % (11 : UInt64))).toNat : Int))))))) rfl rfl) ?_
      refine wl_nil ?_
      refine W_th ?_
      refine W_seq ?_
      refine W_reg (by kernel_rfl) ?_
      refine wla rfl rfl (q_move (v := p3) rfl rfl) ?_
      refine wla rfl rfl (q_move (v := (i64 ((wI ((wI (1 + (wI ((((UInt64.ofInt a0t) % (6 : UInt64))).toNat : Int)))) + (wI ((((UInt64.ofInt a1more) % (11 : UInt64))).toNat : Int))))))) rfl rfl) ?_
      obtain ⟨r11, hr11, H⟩ := Option.bind_eq_some_iff.1 H
      refine wls rfl rfl (stp_call (vs := [p3, (i64 ((wI ((wI (1 + (wI ((((UInt64.ofInt a0t) % (6 : UInt64))).toNat : Int)))) + (wI ((((UInt64.ofInt a1more) % (11 : UInt64))).toNat : Int))))))]) Try.func15 rfl rfl rfl (ar2 rfl rfl) (law08_Unlike_calls a3xs (wI ((wI (1 + (wI ((((UInt64.ofInt a0t) % (6 : UInt64))).toNat : Int)))) + (wI ((((UInt64.ofInt a1more) % (11 : UInt64))).toNat : Int)))) p3 r11 _ (hp3.lift (Lift.ext e10 _)) hr11) ?_)
      rintro _ w11 ⟨v11, rfl, x11, n11_0, o11_0⟩
      refine ⟨_, rfl, ?_⟩
      have i11_0 : By w11 [] v11 r11 := OwK.slk (Sc.stab _) _ (OwK.scal o11_0 (v11 :: [])) (fun k hk => (Old.nil _) k (n11_0 k hk)) (fun _ h => h.2)
      replace i9_0 := i9_0.lift (Lift.ext x11 _)
      have e12 := e10.trans x11
      refine wla rfl rfl (q_assign (v := v11) rfl rfl) ?_
      refine wl_nil ?_
      refine W_th ?_
      refine W_seq ?_
      refine W_reg (by kernel_rfl) ?_
      refine wla rfl rfl (q_move (v := p2) rfl rfl) ?_
      refine wla rfl rfl (q_move (v := p2) rfl rfl) ?_
      refine wla rfl rfl (q_len rfl T22.sl rfl (hp2.lift (Lift.ext e12 _))) ?_
      refine wla rfl rfl (q_move (v := (i64 ((wI (1 + (wI ((((UInt64.ofInt a0t) % (6 : UInt64))).toNat : Int))))))) rfl rfl) ?_
      refine wla rfl rfl (q_minI rfl rfl rfl) ?_
      obtain ⟨c13, hc13, H⟩ := Option.bind_eq_some_iff.1 H
      refine wla rfl rfl (q_slice (a := 0) (b := (if (wI (1 + (wI ((((UInt64.ofInt a0t) % (6 : UInt64))).toNat : Int)))) < (a2p.length : Int) then (wI (1 + (wI ((((UInt64.ofInt a0t) % (6 : UInt64))).toNat : Int)))) else (a2p.length : Int))) rfl T22 rfl (hp2.lift (Lift.ext e12 _)) rfl rfl hc13) ?_
      refine wla rfl rfl (q_assign (v := (subV p2 (0 : Int).toNat ((if (wI (1 + (wI ((((UInt64.ofInt a0t) % (6 : UInt64))).toNat : Int)))) < (a2p.length : Int) then (wI (1 + (wI ((((UInt64.ofInt a0t) % (6 : UInt64))).toNat : Int)))) else (a2p.length : Int)) : Int).toNat)) rfl rfl) ?_
      refine wl_nil ?_
      refine W_th ?_
      refine W_seq ?_
      refine W_reg (by kernel_rfl) ?_
      refine wls rfl rfl (stp_makeMapJ [] rfl ?_)
      intro g14 w14 o14 n14 g14r l14
      have x14 := grown_ext g14r
      replace i9_0 := i9_0.lift (Lift.call _ x14 n14)
      replace i11_0 := i11_0.lift (Lift.call _ x14 n14)
      have n16 := Nw.ext e12 n14
      have e15 := e12.trans x14
      refine wla rfl rfl (q_assign (v := (mp g14)) rfl rfl) ?_
      refine wl_nil ?_
      refine W_th ?_
      refine W_seq ?_
      refine W_seq ?_
      refine W_reg (by kernel_rfl) ?_
      refine wla rfl rfl (q_move (v := p4) rfl rfl) ?_
      refine wla rfl rfl (q_len rfl T22.sl rfl (hp4.lift (Lift.ext e15 _))) ?_
      refine wla rfl rfl (q_move (v := (i64 0)) rfl rfl) ?_
      refine wl_nil ?_
      refine W_th ?_
      obtain ⟨x17, G17, H⟩ := Option.bind_eq_some_iff.1 H
      refine W_mid (fun f w => f 0 = (i64 ((wI (1 + (wI ((((UInt64.ofInt a0t) % (6 : UInt64))).toNat : Int)))))) ∧ f 2 = (subV p2 (0 : Int).toNat ((if (wI (1 + (wI ((((UInt64.ofInt a0t) % (6 : UInt64))).toNat : Int)))) < (a2p.length : Int) then (wI (1 + (wI ((((UInt64.ofInt a0t) % (6 : UInt64))).toNat : Int)))) else (a2p.length : Int)) : Int).toNat) ∧ f 13 = v9 ∧ f 14 = (i64 ((wI ((wI (1 + (wI ((((UInt64.ofInt a0t) % (6 : UInt64))).toNat : Int)))) + (wI ((((UInt64.ofInt a1more) % (11 : UInt64))).toNat : Int)))))) ∧ f 15 = v11 ∧ f 16 = (mp g14) ∧ f 259 = undef ∧ Ext w0 w ∧ MpJ w g14 x17 ∧ Nw w0 (mp g14) ∧ Fd w [(mp g14)] v9 r9 ∧ By w [(mp g14)] v11 r11) ?_ ?_
      · refine W_block ?_
        refine W_loop (fun s17 f w => f 0 = (i64 ((wI (1 + (wI ((((UInt64.ofInt a0t) % (6 : UInt64))).toNat : Int)))))) ∧ f 2 = (subV p2 (0 : Int).toNat ((if (wI (1 + (wI ((((UInt64.ofInt a0t) % (6 : UInt64))).toNat : Int)))) < (a2p.length : Int) then (wI (1 + (wI ((((UInt64.ofInt a0t) % (6 : UInt64))).toNat : Int)))) else (a2p.length : Int)) : Int).toNat) ∧ f 5 = p5 ∧ f 13 = v9 ∧ f 14 = (i64 ((wI ((wI (1 + (wI ((((UInt64.ofInt a0t) % (6 : UInt64))).toNat : Int)))) + (wI ((((UInt64.ofInt a1more) % (11 : UInt64))).toNat : Int)))))) ∧ f 15 = v11 ∧ f 16 = (mp g14) ∧ f 68 = p4 ∧ f 69 = (i64 ((a4where.length : Int))) ∧ f 70 = (i64 s17.2) ∧ f 259 = undef ∧ Ext w0 w ∧ MpJ w g14 s17.1 ∧ Nw w0 (mp g14) ∧ Fd w [(mp g14)] v9 r9 ∧ By w [(mp g14)] v11 r11) G17 ?_ ?_
        · exact ⟨rfl, rfl, rfl, rfl, rfl, rfl, rfl, rfl, rfl, rfl, rfl, e15, o14, n16, i9_0, i11_0⟩
        · rintro s17 _ _ w18 ⟨s0_18, s2_18, s5_18, s13_18, s14_18, s15_18, s16_18, s68_18, s69_18, s70_18, s259_18, hE18, o0_18, n0_18, i0_18, i1_18⟩ H17 hr17
          refine W_seq ?_
          refine W_reg (by kernel_rfl) ?_
          refine wla rfl rfl (q_ltI rfl s70_18 s69_18) ?_
          refine wl_nil ?_
          refine W_th ?_
          refine W_seq ?_
          refine W_cond _ rfl rfl (fun hb19 => ?_) (fun hb19 => ?_)
          · replace H17 := (if_pos (of_decide_eq_true hb19)).symm.trans H17
            refine W_skip ?_
            refine W_th ?_
            refine W_seq ?_
            refine W_block ?_
            refine W_seq ?_
            refine W_reg (by kernel_rfl) ?_
            refine wla rfl rfl (q_move (v := (i64 s17.2)) rfl s70_18) ?_
            obtain ⟨c20, hc20, H17⟩ := Option.bind_eq_some_iff.1 H17
            refine wla rfl rfl (q_adr rfl T22 s68_18 s70_18 (hp4.lift (Lift.ext hE18 _)) hc20) ?_
            refine wlq rfl rfl (q_loadS rfl T22 rfl (hp4.lift (Lift.ext hE18 _)) hc20) ?_
            refine wla rfl rfl (q_assign (v := (i64 s17.2)) rfl rfl) ?_
            refine wla rfl rfl (q_assign (v := (u8 c20)) rfl rfl) ?_
            refine wl_nil ?_
            refine W_th ?_
            refine W_seq ?_
            refine W_reg (by kernel_rfl) ?_
            refine wla rfl rfl (q_move (v := (mp g14)) rfl s16_18) ?_
            refine wlq rfl rfl (q_lenMapJ rfl Try.underlying56 rfl o0_18) ?_
            refine wla rfl rfl (q_move (v := (i64 ((wI ((wI (1 + (wI ((((UInt64.ofInt a0t) % (6 : UInt64))).toNat : Int)))) + (wI ((((UInt64.ofInt a1more) % (11 : UInt64))).toNat : Int))))))) rfl s14_18) ?_
            refine wla rfl rfl (q_move (v := (i64 ((wI (1 + (wI ((((UInt64.ofInt a0t) % (6 : UInt64))).toNat : Int))))))) rfl s0_18) ?_
            refine wla rfl rfl (q_subI rfl rfl rfl) ?_
            obtain ⟨c21, hc21, H17⟩ := Option.bind_eq_some_iff.1 H17
            refine wla rfl rfl (q_divI rfl rfl rfl hc21) ?_
            refine wla rfl rfl (q_ltI rfl rfl rfl) ?_
            refine wlb rfl rfl (q_move (v := (.bool ((decide ((s17.1.length : Int) < c21))))) rfl rfl) (fun hb22 => ?_) (fun hb22 => ?_)
            · replace H17 := (if_pos (of_decide_eq_true hb22)).symm.trans H17
              refine wla rfl rfl (q_move (v := (i64 s17.2)) rfl rfl) ?_
              refine wla rfl rfl (q_move (v := p5) rfl s5_18) ?_
              refine wla rfl rfl (q_len rfl T22.sl rfl (hp5.lift (Lift.ext hE18 _))) ?_
              refine wla rfl rfl (q_ltI rfl rfl rfl) ?_
              refine wla rfl rfl (q_pick_t (v := (.bool ((decide (s17.2 < (a5by.length : Int)))))) rfl rfl rfl) ?_
              refine wlb rfl rfl (q_move (v := (.bool ((decide (s17.2 < (a5by.length : Int)))))) rfl rfl) (fun hb23 => ?_) (fun hb23 => ?_)
              · replace H17 := (if_pos (of_decide_eq_true hb23)).symm.trans H17
                refine wla rfl rfl (q_move (v := p5) rfl s5_18) ?_
                refine wla rfl rfl (q_move (v := (i64 s17.2)) rfl rfl) ?_
                obtain ⟨c24, hc24, H17⟩ := Option.bind_eq_some_iff.1 H17
                refine wla rfl rfl (q_adr rfl T22 rfl rfl (hp5.lift (Lift.ext hE18 _)) hc24) ?_
                refine wlq rfl rfl (q_loadS rfl T22 rfl (hp5.lift (Lift.ext hE18 _)) hc24) ?_
                refine wla rfl rfl (q_ne8 rfl rfl (cst8 (0 : UInt8) rfl)) ?_
                refine wla rfl rfl (q_pick_t (v := (.bool ((!decide (c24 = (0 : UInt8)))))) rfl rfl rfl) ?_
                refine wl_nil ?_
                refine W_th ?_
                refine W_cond _ rfl rfl (fun hb25 => ?_) (fun hb25 => ?_)
                · replace H17 := (if_neg (ndec_t hb25)).symm.trans H17
                  refine W_seq ?_
                  refine W_reg (by kernel_rfl) ?_
                  refine wla rfl rfl (q_move (v := (u8 c20)) rfl rfl) ?_
                  refine wla rfl rfl (q_cvtI8 rfl rfl rfl rfl) ?_
                  refine wla rfl rfl (q_move (v := (i64 ((wI ((wI (1 + (wI ((((UInt64.ofInt a0t) % (6 : UInt64))).toNat : Int)))) + (wI ((((UInt64.ofInt a1more) % (11 : UInt64))).toNat : Int))))))) rfl s14_18) ?_
                  obtain ⟨c26, hc26, H17⟩ := Option.bind_eq_some_iff.1 H17
                  refine wla rfl rfl (q_remI rfl rfl rfl hc26) ?_
                  refine wla rfl rfl (q_assign (v := (i64 c26)) rfl rfl) ?_
                  refine wl_nil ?_
                  refine W_th ?_
                  refine W_seq ?_
                  refine W_reg (by kernel_rfl) ?_
                  refine wla rfl rfl (q_move (v := (mp g14)) rfl s16_18) ?_
                  refine wla rfl rfl (q_move (v := (i64 c26)) rfl rfl) ?_
                  refine wlq rfl rfl (q_lookupJ rfl Try.underlying56 Try.underlying3 Try.zeroValue5 rfl rfl o0_18) ?_
                  refine wla rfl rfl (q_eq8 rfl rfl (cst8 (0 : UInt8) rfl)) ?_
                  refine wl_nil ?_
                  refine W_th ?_
                  refine W_cond _ rfl rfl (fun hb27 => ?_) (fun hb27 => ?_)
                  · replace H17 := (if_pos (of_decide_eq_true hb27)).symm.trans H17
                    refine W_reg (by kernel_rfl) ?_
                    refine wla rfl rfl (q_move (v := (mp g14)) rfl s16_18) ?_
                    refine wla rfl rfl (q_move (v := (i64 c26)) rfl rfl) ?_
                    refine wla rfl rfl (q_move (v := p5) rfl s5_18) ?_
                    refine wla rfl rfl (q_move (v := (i64 s17.2)) rfl rfl) ?_
                    obtain ⟨c28, hc28, H17⟩ := Option.bind_eq_some_iff.1 H17
                    refine wla rfl rfl (q_adr rfl T22 rfl rfl (hp5.lift (Lift.ext hE18 _)) hc28) ?_
                    refine wlq rfl rfl (q_loadS rfl T22 rfl (hp5.lift (Lift.ext hE18 _)) hc28) ?_
                    refine wln rfl rfl (stp_mapUpdateJ [] [] (.inl rfl) Try.underlying56 Try.underlying3 rfl rfl rfl o0_18 ?_)
                    intro w29 o29 g29 l29
                    replace i0_18 := i0_18.lift l29
                    replace i1_18 := i1_18.lift l29
                    have e30 := hE18.grown g29 n0_18
                    refine wl_nil ?_
                    refine bk_n ?_
                    refine W_th ?_
                    refine W_reg (by kernel_rfl) ?_
                    refine wla rfl rfl (q_addI rfl s70_18 rfl) ?_
                    refine wla rfl rfl (q_move (v := (i64 ((wI (s17.2 + 1))))) rfl rfl) ?_
                    refine wl_nil ?_
                    obtain rfl := Option.some.inj H17
                    exact ⟨_, rfl, s0_18, s2_18, s5_18, s13_18, s14_18, s15_18, s16_18, s68_18, s69_18, rfl, s259_18, e30, o29, n0_18, i0_18, i1_18⟩
                  · replace H17 := (if_neg (of_decide_eq_false hb27)).symm.trans H17
                    refine W_skip ?_
                    refine bk_n ?_
                    refine W_th ?_
                    refine W_reg (by kernel_rfl) ?_
                    refine wla rfl rfl (q_addI rfl s70_18 rfl) ?_
                    refine wla rfl rfl (q_move (v := (i64 ((wI (s17.2 + 1))))) rfl rfl) ?_
                    refine wl_nil ?_
                    obtain rfl := Option.some.inj H17
                    exact ⟨_, rfl, s0_18, s2_18, s5_18, s13_18, s14_18, s15_18, s16_18, s68_18, s69_18, rfl, s259_18, hE18, o0_18, n0_18, i0_18, i1_18⟩
                · replace H17 := (if_pos (ndec_f hb25)).symm.trans H17
                  refine W_skip ?_
                  refine bk_n ?_
                  refine W_th ?_
                  refine W_reg (by kernel_rfl) ?_
                  refine wla rfl rfl (q_addI rfl s70_18 rfl) ?_
                  refine wla rfl rfl (q_move (v := (i64 ((wI (s17.2 + 1))))) rfl rfl) ?_
                  refine wl_nil ?_
                  obtain rfl := Option.some.inj H17
                  exact ⟨_, rfl, s0_18, s2_18, s5_18, s13_18, s14_18, s15_18, s16_18, s68_18, s69_18, rfl, s259_18, hE18, o0_18, n0_18, i0_18, i1_18⟩
              · replace H17 := (if_neg (of_decide_eq_false hb23)).symm.trans H17
                refine wlk rfl rfl ?_
                refine wlk rfl rfl ?_
                refine wlk rfl rfl ?_
                refine wlk rfl rfl ?_
                refine wlk rfl rfl ?_
                refine wla rfl rfl (q_pick_f (v := (.bool false)) rfl rfl rfl) ?_
                refine wl_nil ?_
                refine W_th ?_
                refine W_cond false rfl rfl (fun hb => by cases hb) (fun _ => ?_)
                refine W_skip ?_
                refine bk_n ?_
                refine W_th ?_
                refine W_reg (by kernel_rfl) ?_
                refine wla rfl rfl (q_addI rfl s70_18 rfl) ?_
                refine wla rfl rfl (q_move (v := (i64 ((wI (s17.2 + 1))))) rfl rfl) ?_
                refine wl_nil ?_
                obtain rfl := Option.some.inj H17
                exact ⟨_, rfl, s0_18, s2_18, s5_18, s13_18, s14_18, s15_18, s16_18, s68_18, s69_18, rfl, s259_18, hE18, o0_18, n0_18, i0_18, i1_18⟩
            · replace H17 := (if_neg (of_decide_eq_false hb22)).symm.trans H17
              refine wlk rfl rfl ?_
              refine wlk rfl rfl ?_
              refine wlk rfl rfl ?_
              refine wlk rfl rfl ?_
              refine wla rfl rfl (q_pick_f (v := (.bool false)) rfl rfl rfl) ?_
              refine wla rfl rfl (q_move (v := (.bool false)) rfl rfl) ?_
              refine wlk rfl rfl ?_
              refine wlk rfl rfl ?_
              refine wlk rfl rfl ?_
              refine wlk rfl rfl ?_
              refine wlk rfl rfl ?_
              refine wla rfl rfl (q_pick_f (v := (.bool false)) rfl rfl rfl) ?_
              refine wl_nil ?_
              refine W_th ?_
              refine W_cond false rfl rfl (fun hb => by cases hb) (fun _ => ?_)
              refine W_skip ?_
              refine bk_n ?_
              refine W_th ?_
              refine W_reg (by kernel_rfl) ?_
              refine wla rfl rfl (q_addI rfl s70_18 rfl) ?_
              refine wla rfl rfl (q_move (v := (i64 ((wI (s17.2 + 1))))) rfl rfl) ?_
              refine wl_nil ?_
              obtain rfl := Option.some.inj H17
              exact ⟨_, rfl, s0_18, s2_18, s5_18, s13_18, s14_18, s15_18, s16_18, s68_18, s69_18, rfl, s259_18, hE18, o0_18, n0_18, i0_18, i1_18⟩
          · replace H17 := (if_neg (of_decide_eq_false hb19)).symm.trans H17
            refine W_exit ?_
            refine th_x ?_
            obtain rfl := Option.some.inj H17
            obtain rfl := hr17 _ rfl
            refine th_x ?_
            refine bk_x ?_
            exact ⟨s0_18, s2_18, s13_18, s14_18, s15_18, s16_18, s259_18, hE18, o0_18, n0_18, i0_18, i1_18⟩
      · rintro _ w32 ⟨s0_32, s2_32, s13_32, s14_32, s15_32, s16_32, s259_32, hE32, o0_32, n0_32, i0_32, i1_32⟩
        refine W_th ?_
        refine W_seq ?_
        refine W_reg (by kernel_rfl) ?_
        refine wla rfl rfl (q_assign (v := (.slice none 0 0)) rfl rfl) ?_
        refine wl_nil ?_
        refine W_th ?_
        refine W_seq ?_
        refine W_seq ?_
        refine W_reg (by kernel_rfl) ?_
        refine wla rfl rfl (q_move (v := v11) rfl s15_32) ?_
        refine wla rfl rfl (q_len rfl T22.sl rfl i1_32) ?_
        refine wla rfl rfl (q_move (v := (i64 0)) rfl rfl) ?_
        refine wl_nil ?_
        refine W_th ?_
        obtain ⟨x33, G33, H⟩ := Option.bind_eq_some_iff.1 H
        refine W_mid (fun f w => ∃ v20_96 : Value, f 0 = (i64 ((wI (1 + (wI ((((UInt64.ofInt a0t) % (6 : UInt64))).toNat : Int)))))) ∧ f 13 = v9 ∧ f 14 = (i64 ((wI ((wI (1 + (wI ((((UInt64.ofInt a0t) % (6 : UInt64))).toNat : Int)))) + (wI ((((UInt64.ofInt a1more) % (11 : UInt64))).toNat : Int)))))) ∧ f 15 = v11 ∧ f 16 = (mp g14) ∧ f 20 = v20_96 ∧ f 259 = undef ∧ Ext w0 w ∧ MpJ w g14 x17 ∧ Nw w0 (mp g14) ∧ OwK (Sc u8) w [(mp g14), v20_96] 5 v20_96 x33 ∧ Nw w0 v20_96 ∧ Nq (mp g14) v20_96 ∧ Fd w [(mp g14), v20_96] v9 r9 ∧ By w [(mp g14), v20_96] v11 r11) ?_ ?_
        · refine W_block ?_
          refine W_loop (fun s33 f w => ∃ v20_47 : Value, f 0 = (i64 ((wI (1 + (wI ((((UInt64.ofInt a0t) % (6 : UInt64))).toNat : Int)))))) ∧ f 2 = (subV p2 (0 : Int).toNat ((if (wI (1 + (wI ((((UInt64.ofInt a0t) % (6 : UInt64))).toNat : Int)))) < (a2p.length : Int) then (wI (1 + (wI ((((UInt64.ofInt a0t) % (6 : UInt64))).toNat : Int)))) else (a2p.length : Int)) : Int).toNat) ∧ f 13 = v9 ∧ f 14 = (i64 ((wI ((wI (1 + (wI ((((UInt64.ofInt a0t) % (6 : UInt64))).toNat : Int)))) + (wI ((((UInt64.ofInt a1more) % (11 : UInt64))).toNat : Int)))))) ∧ f 15 = v11 ∧ f 16 = (mp g14) ∧ f 20 = v20_47 ∧ f 110 = v11 ∧ f 111 = (i64 ((r11.length : Int))) ∧ f 112 = (i64 s33.2) ∧ f 259 = undef ∧ Ext w0 w ∧ MpJ w g14 x17 ∧ Nw w0 (mp g14) ∧ OwK (Sc u8) w [(mp g14), v20_47] 5 v20_47 s33.1 ∧ Nw w0 v20_47 ∧ Nq (mp g14) v20_47 ∧ Fd w [(mp g14), v20_47] v9 r9 ∧ By w [(mp g14), v20_47] v11 r11) G33 ?_ ?_
          · exact ⟨(.slice none 0 0), s0_32, s2_32, s13_32, s14_32, s15_32, s16_32, rfl, rfl, rfl, rfl, s259_32, hE32, o0_32, n0_32, (OwK.nil _ _ _ _), (Nw.nil _), (Nq.nil _).symm, (i0_32.lift (Lift.sub (fun _ h => ⟨h.1, nh_nil, trivial⟩))), (i1_32.lift (Lift.sub (fun _ h => ⟨h.1, nh_nil, trivial⟩)))⟩
          · rintro s33 _ _ w34 ⟨v20_34, s0_34, s2_34, s13_34, s14_34, s15_34, s16_34, s20_34, s110_34, s111_34, s112_34, s259_34, hE34, o0_34, n0_34, o1_34, n1_34, q0_1_34, i0_34, i1_34⟩ H33 hr33
            refine W_seq ?_
            refine W_reg (by kernel_rfl) ?_
            refine wla rfl rfl (q_ltI rfl s112_34 s111_34) ?_
            refine wl_nil ?_
            refine W_th ?_
            refine W_seq ?_
            refine W_cond _ rfl rfl (fun hb35 => ?_) (fun hb35 => ?_)
            · replace H33 := (if_pos (of_decide_eq_true hb35)).symm.trans H33
              refine W_skip ?_
              refine W_th ?_
              refine W_seq ?_
              refine W_block ?_
              refine W_seq ?_
              refine W_reg (by kernel_rfl) ?_
              refine wla rfl rfl (q_move (v := (i64 s33.2)) rfl s112_34) ?_
              obtain ⟨c36, hc36, H33⟩ := Option.bind_eq_some_iff.1 H33
              refine wla rfl rfl (q_adr rfl T22 s110_34 s112_34 i1_34 hc36) ?_
              refine wlq rfl rfl (q_loadS rfl T22 rfl i1_34 hc36) ?_
              refine wla rfl rfl (q_assign (v := (i64 s33.2)) rfl rfl) ?_
              refine wla rfl rfl (q_assign (v := (u8 c36)) rfl rfl) ?_
              refine wl_nil ?_
              refine W_th ?_
              refine W_draw [7] [(0, 0), (1, 0), (2, 0), (3, 0), (5, 0), (6, 0), (7, 1), (4, 2), (8, 0), (9, 2), (10, 2), (11, 0)] mixed (by kernel_rfl) (by kernel_rfl) (by kernel_rfl) (by kernel_rfl) ?_
              have x37 := Ext.drew w34
              replace i0_34 := i0_34.lift (Lift.ext x37 _)
              replace i1_34 := i1_34.lift (Lift.ext x37 _)
              replace o0_34 := o0_34.ext x37
              replace o1_34 := o1_34.extL (Sc.stab _) x37 (Lift.ext x37 _)
              have e38 := hE34.trans x37
              refine wsa rfl rfl rfl (q_move (v := v20_34) rfl s20_34) ?_
              refine wsa rfl rfl rfl (q_move (v := v9) rfl s13_34) ?_
              refine wsa rfl rfl rfl (q_move (v := (subV p2 (0 : Int).toNat ((if (wI (1 + (wI ((((UInt64.ofInt a0t) % (6 : UInt64))).toNat : Int)))) < (a2p.length : Int) then (wI (1 + (wI ((((UInt64.ofInt a0t) % (6 : UInt64))).toNat : Int)))) else (a2p.length : Int)) : Int).toNat)) rfl s2_34) ?_
              refine wsa rfl rfl rfl (q_move (v := (u8 c36)) rfl rfl) ?_
              refine wsa rfl rfl rfl (q_move (v := (mp g14)) rfl s16_34) ?_
              refine wsa rfl rfl rfl (q_move (v := (i64 s33.2)) rfl rfl) ?_
              refine wsq rfl rfl rfl (q_lookupJ rfl Try.underlying56 Try.underlying3 Try.zeroValue5 rfl rfl o0_34) ?_
              obtain ⟨r39, hr39, H33⟩ := Option.bind_eq_some_iff.1 H33
              refine wss rfl rfl rfl (stp_call (vs := [v9, (subV p2 (0 : Int).toNat ((if (wI (1 + (wI ((((UInt64.ofInt a0t) % (6 : UInt64))).toNat : Int)))) < (a2p.length : Int) then (wI (1 + (wI ((((UInt64.ofInt a0t) % (6 : UInt64))).toNat : Int)))) else (a2p.length : Int)) : Int).toNat), (u8 c36)]) Try.func17 rfl rfl rfl (ar3 rfl rfl rfl) (poly_Eval_calls r9 c13 c36 v9 (subV p2 (0 : Int).toNat ((if (wI (1 + (wI ((((UInt64.ofInt a0t) % (6 : UInt64))).toNat : Int)))) < (a2p.length : Int) then (wI (1 + (wI ((((UInt64.ofInt a0t) % (6 : UInt64))).toNat : Int)))) else (a2p.length : Int)) : Int).toNat) r39 _ (i0_34.lift (Lift.sub (fun _ _ => trivial))) (SlK.cut (L := []) (hp2.lift (Lift.ext e38 _)) hc13) hr39) ?_)
              rintro _ w39 ⟨rfl, x39⟩
              refine ⟨_, rfl, x39, ?_⟩
              replace i0_34 := i0_34.lift (Lift.ext x39 _)
              replace i1_34 := i1_34.lift (Lift.ext x39 _)
              replace o0_34 := o0_34.ext x39
              replace o1_34 := o1_34.extL (Sc.stab _) x39 (Lift.ext x39 _)
              have e40 := e38.trans x39
              refine wsa rfl rfl rfl (q_xor8 rfl rfl rfl) ?_
              refine wsc rfl (by kernel_rfl) rfl rfl (stp_lit (L := [(mp g14), v20_34]) (R := (Sc u8)) [(u8 ((r39 ^^^ (mgetJ x17 s33.2))))] ([(r39 ^^^ (mgetJ x17 s33.2))] : List UInt8) rfl T22 rfl (by exact ⟨rfl, rfl, trivial⟩) rfl (litC u8 (oneC_u8) (us := [(u8 ((r39 ^^^ (mgetJ x17 s33.2))))]) (l := ([(r39 ^^^ (mgetJ x17 s33.2))] : List UInt8)) rfl) rfl (litS u8 (us := [(u8 ((r39 ^^^ (mgetJ x17 s33.2))))]) (l := ([(r39 ^^^ (mgetJ x17 s33.2))] : List UInt8)) rfl) ?_)
              intro v41 w41 o41 n41 g41 l41
              have x41 := grown_ext g41
              have i41 : By w41 [(mp g14), v20_34] v41 (([(r39 ^^^ (mgetJ x17 s33.2))] : List UInt8)) := OwK.slk (Sc.stab _) _ o41 (fun k hk => (Old.cons (Old.cons (Old.nil _) o1_34.lt) o0_34.ltB) k (n41 k hk)) (fun _ h => h.2)
              replace i0_34 := i0_34.lift (Lift.ext x41 _)
              replace i1_34 := i1_34.lift (Lift.ext x41 _)
              replace o0_34 := o0_34.ext x41
              replace o1_34 := o1_34.extL (Sc.stab _) x41 (Lift.ext x41 _)
              have e42 := e40.trans x41
              obtain ⟨c43, hc43, H33⟩ := Option.bind_eq_some_iff.1 H33
              refine wsc rfl (by kernel_rfl) rfl rfl (stp_append (R := (Sc u8)) (v := v20_34) (u := v41) (Sc.stab _) [(mp g14)] [] rfl T22 rfl rfl o1_34 i41 (fun _ _ h => h) hc43 oc_u8 ?_)
              intro v43 w43 o43 g43 nx43 l43
              replace i0_34 := i0_34.lift l43
              replace i1_34 := i1_34.lift l43
              replace i41 := i41.lift l43
              have q44 : Nq (mp g14) v43 := o0_34.nxt q0_1_34 nx43
              replace o0_34 := o0_34.other g43 q0_1_34
              have e45 := e42.grown g43 n1_34
              have n46 := Nw.nxt e42 n1_34 nx43
              refine wsa rfl rfl rfl (q_assign (v := v43) rfl rfl) ?_
              refine ws_nil ?_
              refine bk_n ?_
              refine W_th ?_
              refine W_reg (by kernel_rfl) ?_
              refine wla rfl rfl (q_addI rfl s112_34 rfl) ?_
              refine wla rfl rfl (q_move (v := (i64 ((wI (s33.2 + 1))))) rfl rfl) ?_
              refine wl_nil ?_
              obtain rfl := Option.some.inj H33
              exact ⟨_, rfl, v43, s0_34, s2_34, s13_34, s14_34, s15_34, s16_34, rfl, s110_34, s111_34, rfl, s259_34, e45, o0_34, n0_34, o43, n46, q44, i0_34, i1_34⟩
            · replace H33 := (if_neg (of_decide_eq_false hb35)).symm.trans H33
              refine W_exit ?_
              refine th_x ?_
              obtain rfl := Option.some.inj H33
              obtain rfl := hr33 _ rfl
              refine th_x ?_
              refine bk_x ?_
              exact ⟨v20_34, s0_34, s13_34, s14_34, s15_34, s16_34, s20_34, s259_34, hE34, o0_34, n0_34, o1_34, n1_34, q0_1_34, i0_34, i1_34⟩
        · rintro _ w48 ⟨v20_48, s0_48, s13_48, s14_48, s15_48, s16_48, s20_48, s259_48, hE48, o0_48, n0_48, o1_48, n1_48, q0_1_48, i0_48, i1_48⟩
          refine W_th ?_
          refine W_seq ?_
          refine W_reg (by kernel_rfl) ?_
          refine wla rfl rfl (q_move (v := v9) rfl s13_48) ?_
          refine wla rfl rfl (q_move (v := (i64 ((wI (1 + (wI ((((UInt64.ofInt a0t) % (6 : UInt64))).toNat : Int))))))) rfl s0_48) ?_
          refine wla rfl rfl (q_move (v := v11) rfl s15_48) ?_
          refine wla rfl rfl (q_move (v := v20_48) rfl s20_48) ?_
          obtain ⟨r49, hr49, H⟩ := Option.bind_eq_some_iff.1 H
          refine wls rfl rfl (stp_call (vs := [v9, (i64 ((wI (1 + (wI ((((UInt64.ofInt a0t) % (6 : UInt64))).toNat : Int)))))), v11, v20_48]) Try.func25 rfl rfl rfl (ar4 rfl rfl rfl rfl) (syndrome_Syndromes_calls r9 (wI (1 + (wI ((((UInt64.ofInt a0t) % (6 : UInt64))).toNat : Int)))) r11 x33 v9 v11 v20_48 r49 _ (i0_48.lift (Lift.sub (fun _ _ => trivial))) (i1_48.lift (Lift.sub (fun _ _ => trivial))) (o1_48.rd (Sc.stab _)) hr49) ?_)
          rintro _ w49 ⟨v49_0, rfl, x49, n49_0, o49_0⟩
          refine ⟨_, rfl, ?_⟩
          have i49_0 : By w49 [(mp g14), v20_48] v49_0 r49.1 := OwK.slk (Sc.stab _) _ (OwK.scal o49_0 (v49_0 :: [(mp g14), v20_48])) (fun k hk => (Old.cons (Old.cons (Old.nil _) o1_48.lt) o0_48.ltB) k (n49_0 k hk)) (fun _ h => h.2)
          replace i0_48 := i0_48.lift (Lift.ext x49 _)
          replace i1_48 := i1_48.lift (Lift.ext x49 _)
          replace o0_48 := o0_48.ext x49
          replace o1_48 := o1_48.extL (Sc.stab _) x49 (Lift.ext x49 _)
          have e50 := hE48.trans x49
          refine wla rfl rfl (q_move (v := (.tuple #[v49_0, (i64 r49.2)])) rfl rfl) ?_
          refine wla rfl rfl (q_extract rfl rfl rfl) ?_
          refine wla rfl rfl (q_extract rfl rfl rfl) ?_
          refine wla rfl rfl (q_assign (v := v49_0) rfl rfl) ?_
          refine wla rfl rfl (q_assign (v := (i64 r49.2)) rfl rfl) ?_
          refine wl_nil ?_
          refine W_th ?_
          refine W_seq ?_
          refine W_reg (by kernel_rfl) ?_
          refine wla rfl rfl (q_move (v := v9) rfl s13_48) ?_
          refine wla rfl rfl (q_move (v := v49_0) rfl rfl) ?_
          obtain ⟨r51, hr51, H⟩ := Option.bind_eq_some_iff.1 H
          refine wls rfl rfl (stp_call (vs := [v9, v49_0]) Try.func29 rfl rfl rfl (ar2 rfl rfl) (syndrome_Locator_calls r9 r49.1 v9 v49_0 r51 _ (i0_48.lift (Lift.sub (fun _ _ => trivial))) (i49_0.lift (Lift.sub (fun _ _ => trivial))) hr51) ?_)
          rintro _ w51 ⟨v51_0, rfl, x51, n51_0, o51_0⟩
          refine ⟨_, rfl, ?_⟩
          have i51_0 : By w51 [(mp g14), v20_48] v51_0 r51.1 := OwK.slk (Sc.stab _) _ (OwK.scal o51_0 (v51_0 :: [(mp g14), v20_48])) (fun k hk => (Old.cons (Old.cons (Old.nil _) o1_48.lt) o0_48.ltB) k (n51_0 k hk)) (fun _ h => h.2)
          replace i0_48 := i0_48.lift (Lift.ext x51 _)
          replace i1_48 := i1_48.lift (Lift.ext x51 _)
          replace i49_0 := i49_0.lift (Lift.ext x51 _)
          replace o0_48 := o0_48.ext x51
          replace o1_48 := o1_48.extL (Sc.stab _) x51 (Lift.ext x51 _)
          have e52 := e50.trans x51
          refine wla rfl rfl (q_move (v := (.tuple #[v51_0, (i64 r51.2)])) rfl rfl) ?_
          refine wla rfl rfl (q_extract rfl rfl rfl) ?_
          refine wla rfl rfl (q_extract rfl rfl rfl) ?_
          refine wla rfl rfl (q_assign (v := v51_0) rfl rfl) ?_
          refine wla rfl rfl (q_assign (v := (i64 r51.2)) rfl rfl) ?_
          refine wl_nil ?_
          refine W_th ?_
          refine W_seq ?_
          refine W_reg (by kernel_rfl) ?_
          refine wla rfl rfl (q_move (v := v9) rfl s13_48) ?_
          refine wla rfl rfl (q_move (v := v51_0) rfl rfl) ?_
          refine wla rfl rfl (q_move (v := v11) rfl s15_48) ?_
          obtain ⟨r53, hr53, H⟩ := Option.bind_eq_some_iff.1 H
          refine wls rfl rfl (stp_call (vs := [v9, v51_0, v11]) Try.func30 rfl rfl rfl (ar3 rfl rfl rfl) (syndrome_Located_calls r9 r51.1 r11 v9 v51_0 v11 r53 _ (i0_48.lift (Lift.sub (fun _ _ => trivial))) (i51_0.lift (Lift.sub (fun _ _ => trivial))) (i1_48.lift (Lift.sub (fun _ _ => trivial))) hr53) ?_)
          rintro _ w53 ⟨v53, rfl, x53, n53_0, o53_0⟩
          refine ⟨_, rfl, ?_⟩
          have i53_0 : In w53 [(mp g14), v20_48] v53 r53 := OwK.slk (Sc.stab _) _ (OwK.scal o53_0 (v53 :: [(mp g14), v20_48])) (fun k hk => (Old.cons (Old.cons (Old.nil _) o1_48.lt) o0_48.ltB) k (n53_0 k hk)) (fun _ h => h.2)
          replace i0_48 := i0_48.lift (Lift.ext x53 _)
          replace i1_48 := i1_48.lift (Lift.ext x53 _)
          replace i49_0 := i49_0.lift (Lift.ext x53 _)
          replace i51_0 := i51_0.lift (Lift.ext x53 _)
          replace o0_48 := o0_48.ext x53
          replace o1_48 := o1_48.extL (Sc.stab _) x53 (Lift.ext x53 _)
          have e54 := e52.trans x53
          refine wla rfl rfl (q_assign (v := v53) rfl rfl) ?_
          refine wl_nil ?_
          refine W_th ?_
          refine W_seq ?_
          refine W_reg (by kernel_rfl) ?_
          refine wla rfl rfl (q_move (v := v9) rfl s13_48) ?_
          refine wla rfl rfl (q_move (v := v49_0) rfl rfl) ?_
          refine wla rfl rfl (q_move (v := v51_0) rfl rfl) ?_
          refine wla rfl rfl (q_move (v := v11) rfl s15_48) ?_
          refine wla rfl rfl (q_move (v := v53) rfl rfl) ?_
          obtain ⟨r55, hr55, H⟩ := Option.bind_eq_some_iff.1 H
          refine wls rfl rfl (stp_call (vs := [v9, v49_0, v51_0, v11, v53]) Try.func31 rfl rfl rfl (ar5 rfl rfl rfl rfl rfl) (syndrome_Values_calls r9 r49.1 r51.1 r11 r53 v9 v49_0 v51_0 v11 v53 r55 _ (i0_48.lift (Lift.sub (fun _ _ => trivial))) (i49_0.lift (Lift.sub (fun _ _ => trivial))) (i51_0.lift (Lift.sub (fun _ _ => trivial))) (i1_48.lift (Lift.sub (fun _ _ => trivial))) (i53_0.lift (Lift.sub (fun _ _ => trivial))) hr55) ?_)
          rintro _ w55 ⟨v55_0, rfl, x55, n55_0, o55_0⟩
          refine ⟨_, rfl, ?_⟩
          have i55_0 : By w55 [(mp g14), v20_48] v55_0 r55.1 := OwK.slk (Sc.stab _) _ (OwK.scal o55_0 (v55_0 :: [(mp g14), v20_48])) (fun k hk => (Old.cons (Old.cons (Old.nil _) o1_48.lt) o0_48.ltB) k (n55_0 k hk)) (fun _ h => h.2)
          replace i0_48 := i0_48.lift (Lift.ext x55 _)
          replace i1_48 := i1_48.lift (Lift.ext x55 _)
          replace i49_0 := i49_0.lift (Lift.ext x55 _)
          replace i51_0 := i51_0.lift (Lift.ext x55 _)
          replace i53_0 := i53_0.lift (Lift.ext x55 _)
          replace o0_48 := o0_48.ext x55
          replace o1_48 := o1_48.extL (Sc.stab _) x55 (Lift.ext x55 _)
          have e56 := e54.trans x55
          refine wla rfl rfl (q_move (v := (.tuple #[v55_0, (i64 r55.2)])) rfl rfl) ?_
          refine wla rfl rfl (q_extract rfl rfl rfl) ?_
          refine wla rfl rfl (q_extract rfl rfl rfl) ?_
          refine wla rfl rfl (q_assign (v := v55_0) rfl rfl) ?_
          refine wla rfl rfl (q_assign (v := (i64 r55.2)) rfl rfl) ?_
          refine wl_nil ?_
          refine W_th ?_
          refine W_seq ?_
          refine W_seq ?_
          refine W_reg (by kernel_rfl) ?_
          refine wla rfl rfl (q_move (v := (i64 r49.2)) rfl rfl) ?_
          refine wla rfl rfl (q_neI rfl rfl rfl) ?_
          refine wlb rfl rfl (q_move (v := (.bool ((!decide (r49.2 = 0))))) rfl rfl) (fun hb57 => ?_) (fun hb57 => ?_)
          · replace H := (if_neg (ndec_t hb57)).symm.trans H
            refine wlk rfl rfl ?_
            refine wlk rfl rfl ?_
            refine wla rfl rfl (q_pick_t (v := (.bool true)) rfl rfl rfl) ?_
            refine wla rfl rfl (q_move (v := (.bool true)) rfl rfl) ?_
            refine wlk rfl rfl ?_
            refine wlk rfl rfl ?_
            refine wla rfl rfl (q_pick_t (v := (.bool true)) rfl rfl rfl) ?_
            refine wla rfl rfl (q_move (v := (.bool true)) rfl rfl) ?_
            refine wlk rfl rfl ?_
            refine wlk rfl rfl ?_
            refine wlk rfl rfl ?_
            refine wlk rfl rfl ?_
            refine wlk rfl rfl ?_
            refine wla rfl rfl (q_pick_t (v := (.bool true)) rfl rfl rfl) ?_
            refine wla rfl rfl (q_move (v := (.bool true)) rfl rfl) ?_
            refine wlk rfl rfl ?_
            refine wlk rfl rfl ?_
            refine wlk rfl rfl ?_
            refine wlk rfl rfl ?_
            refine wlk rfl rfl ?_
            refine wla rfl rfl (q_pick_t (v := (.bool true)) rfl rfl rfl) ?_
            refine wl_nil ?_
            refine W_th ?_
            refine W_cond true rfl rfl (fun _ => ?_) (fun hb => by cases hb)
            refine W_seq ?_
            refine W_reg (by kernel_rfl) ?_
            refine wla rfl rfl (q_assign (v := (.bool false)) rfl rfl) ?_
            refine wl_nil ?_
            refine W_th ?_
            refine W_ret ?_
            refine th_r ?_
            obtain rfl := Option.some.inj H
            refine rt1 (.bool false) rfl rfl rfl s259_48 ?_
            exact ⟨rfl, e56⟩
          · replace H := (if_pos (ndec_f hb57)).symm.trans H
            refine wla rfl rfl (q_move (v := (i64 r51.2)) rfl rfl) ?_
            refine wla rfl rfl (q_neI rfl rfl rfl) ?_
            refine wla rfl rfl (q_pick_f (v := (.bool ((!decide (r51.2 = 0))))) rfl rfl rfl) ?_
            refine wlb rfl rfl (q_move (v := (.bool ((!decide (r51.2 = 0))))) rfl rfl) (fun hb58 => ?_) (fun hb58 => ?_)
            · replace H := (if_neg (ndec_t hb58)).symm.trans H
              refine wlk rfl rfl ?_
              refine wlk rfl rfl ?_
              refine wla rfl rfl (q_pick_t (v := (.bool true)) rfl rfl rfl) ?_
              refine wla rfl rfl (q_move (v := (.bool true)) rfl rfl) ?_
              refine wlk rfl rfl ?_
              refine wlk rfl rfl ?_
              refine wlk rfl rfl ?_
              refine wlk rfl rfl ?_
              refine wlk rfl rfl ?_
              refine wla rfl rfl (q_pick_t (v := (.bool true)) rfl rfl rfl) ?_
              refine wla rfl rfl (q_move (v := (.bool true)) rfl rfl) ?_
              refine wlk rfl rfl ?_
              refine wlk rfl rfl ?_
              refine wlk rfl rfl ?_
              refine wlk rfl rfl ?_
              refine wlk rfl rfl ?_
              refine wla rfl rfl (q_pick_t (v := (.bool true)) rfl rfl rfl) ?_
              refine wl_nil ?_
              refine W_th ?_
              refine W_cond true rfl rfl (fun _ => ?_) (fun hb => by cases hb)
              refine W_seq ?_
              refine W_reg (by kernel_rfl) ?_
              refine wla rfl rfl (q_assign (v := (.bool false)) rfl rfl) ?_
              refine wl_nil ?_
              refine W_th ?_
              refine W_ret ?_
              refine th_r ?_
              obtain rfl := Option.some.inj H
              refine rt1 (.bool false) rfl rfl rfl s259_48 ?_
              exact ⟨rfl, e56⟩
            · replace H := (if_pos (ndec_f hb58)).symm.trans H
              refine wla rfl rfl (q_move (v := (i64 r55.2)) rfl rfl) ?_
              refine wla rfl rfl (q_neI rfl rfl rfl) ?_
              refine wla rfl rfl (q_pick_f (v := (.bool ((!decide (r55.2 = 0))))) rfl rfl rfl) ?_
              refine wlb rfl rfl (q_move (v := (.bool ((!decide (r55.2 = 0))))) rfl rfl) (fun hb59 => ?_) (fun hb59 => ?_)
              · replace H := (if_neg (ndec_t hb59)).symm.trans H
                refine wlk rfl rfl ?_
                refine wlk rfl rfl ?_
                refine wlk rfl rfl ?_
                refine wlk rfl rfl ?_
                refine wlk rfl rfl ?_
                refine wla rfl rfl (q_pick_t (v := (.bool true)) rfl rfl rfl) ?_
                refine wla rfl rfl (q_move (v := (.bool true)) rfl rfl) ?_
                refine wlk rfl rfl ?_
                refine wlk rfl rfl ?_
                refine wlk rfl rfl ?_
                refine wlk rfl rfl ?_
                refine wlk rfl rfl ?_
                refine wla rfl rfl (q_pick_t (v := (.bool true)) rfl rfl rfl) ?_
                refine wl_nil ?_
                refine W_th ?_
                refine W_cond true rfl rfl (fun _ => ?_) (fun hb => by cases hb)
                refine W_seq ?_
                refine W_reg (by kernel_rfl) ?_
                refine wla rfl rfl (q_assign (v := (.bool false)) rfl rfl) ?_
                refine wl_nil ?_
                refine W_th ?_
                refine W_ret ?_
                refine th_r ?_
                obtain rfl := Option.some.inj H
                refine rt1 (.bool false) rfl rfl rfl s259_48 ?_
                exact ⟨rfl, e56⟩
              · replace H := (if_pos (ndec_f hb59)).symm.trans H
                refine wla rfl rfl (q_move (v := v53) rfl rfl) ?_
                refine wla rfl rfl (q_len rfl T47.sl rfl i53_0) ?_
                refine wla rfl rfl (q_move (v := (mp g14)) rfl s16_48) ?_
                refine wlq rfl rfl (q_lenMapJ rfl Try.underlying56 rfl o0_48) ?_
                refine wla rfl rfl (q_neI rfl rfl rfl) ?_
                refine wla rfl rfl (q_pick_f (v := (.bool ((!decide ((r53.length : Int) = (x17.length : Int)))))) rfl rfl rfl) ?_
                refine wlb rfl rfl (q_move (v := (.bool ((!decide ((r53.length : Int) = (x17.length : Int)))))) rfl rfl) (fun hb60 => ?_) (fun hb60 => ?_)
                · replace H := (if_neg (ndec_t hb60)).symm.trans H
                  refine wlk rfl rfl ?_
                  refine wlk rfl rfl ?_
                  refine wlk rfl rfl ?_
                  refine wlk rfl rfl ?_
                  refine wlk rfl rfl ?_
                  refine wla rfl rfl (q_pick_t (v := (.bool true)) rfl rfl rfl) ?_
                  refine wl_nil ?_
                  refine W_th ?_
                  refine W_cond true rfl rfl (fun _ => ?_) (fun hb => by cases hb)
                  refine W_seq ?_
                  refine W_reg (by kernel_rfl) ?_
                  refine wla rfl rfl (q_assign (v := (.bool false)) rfl rfl) ?_
                  refine wl_nil ?_
                  refine W_th ?_
                  refine W_ret ?_
                  refine th_r ?_
                  obtain rfl := Option.some.inj H
                  refine rt1 (.bool false) rfl rfl rfl s259_48 ?_
                  exact ⟨rfl, e56⟩
                · replace H := (if_pos (ndec_f hb60)).symm.trans H
                  refine wla rfl rfl (q_move (v := v55_0) rfl rfl) ?_
                  refine wla rfl rfl (q_len rfl T22.sl rfl i55_0) ?_
                  refine wla rfl rfl (q_move (v := (mp g14)) rfl s16_48) ?_
                  refine wlq rfl rfl (q_lenMapJ rfl Try.underlying56 rfl o0_48) ?_
                  refine wla rfl rfl (q_neI rfl rfl rfl) ?_
                  refine wla rfl rfl (q_pick_f (v := (.bool ((!decide ((r55.1.length : Int) = (x17.length : Int)))))) rfl rfl rfl) ?_
                  refine wl_nil ?_
                  refine W_th ?_
                  refine W_cond _ rfl rfl (fun hb61 => ?_) (fun hb61 => ?_)
                  · replace H := (if_neg (ndec_t hb61)).symm.trans H
                    refine W_seq ?_
                    refine W_reg (by kernel_rfl) ?_
                    refine wla rfl rfl (q_assign (v := (.bool false)) rfl rfl) ?_
                    refine wl_nil ?_
                    refine W_th ?_
                    refine W_ret ?_
                    refine th_r ?_
                    obtain rfl := Option.some.inj H
                    refine rt1 (.bool false) rfl rfl rfl s259_48 ?_
                    exact ⟨rfl, e56⟩
                  · replace H := (if_pos (ndec_f hb61)).symm.trans H
                    refine W_skip ?_
                    refine W_th ?_
                    refine W_seq ?_
                    refine W_seq ?_
                    refine W_reg (by kernel_rfl) ?_
                    refine wla rfl rfl (q_move (v := v53) rfl rfl) ?_
                    refine wla rfl rfl (q_len rfl T47.sl rfl i53_0) ?_
                    refine wla rfl rfl (q_move (v := (i64 0)) rfl rfl) ?_
                    refine wl_nil ?_
                    refine W_th ?_
                    obtain ⟨x62, G62, H⟩ := Option.bind_eq_some_iff.1 H
                    refine W_mid (fun f w => ∃ y62, x62 = .inl y62 ∧ f 13 = v9 ∧ f 14 = (i64 ((wI ((wI (1 + (wI ((((UInt64.ofInt a0t) % (6 : UInt64))).toNat : Int)))) + (wI ((((UInt64.ofInt a1more) % (11 : UInt64))).toNat : Int)))))) ∧ f 15 = v11 ∧ f 23 = v49_0 ∧ f 25 = v51_0 ∧ f 259 = undef ∧ Ext w0 w ∧ Fd w [] v9 r9 ∧ By w [] v11 r11 ∧ By w [] v49_0 r49.1 ∧ By w [] v51_0 r51.1) ?_ ?_
                    · refine W_block ?_
                      refine W_loop (fun s62 f w => f 13 = v9 ∧ f 14 = (i64 ((wI ((wI (1 + (wI ((((UInt64.ofInt a0t) % (6 : UInt64))).toNat : Int)))) + (wI ((((UInt64.ofInt a1more) % (11 : UInt64))).toNat : Int)))))) ∧ f 15 = v11 ∧ f 16 = (mp g14) ∧ f 23 = v49_0 ∧ f 25 = v51_0 ∧ f 27 = v53 ∧ f 28 = v55_0 ∧ f 180 = v53 ∧ f 181 = (i64 ((r53.length : Int))) ∧ f 182 = (i64 s62) ∧ f 259 = undef ∧ Ext w0 w ∧ MpJ w g14 x17 ∧ Nw w0 (mp g14) ∧ Fd w [(mp g14)] v9 r9 ∧ By w [(mp g14)] v11 r11 ∧ By w [(mp g14)] v49_0 r49.1 ∧ By w [(mp g14)] v51_0 r51.1 ∧ In w [(mp g14)] v53 r53 ∧ By w [(mp g14)] v55_0 r55.1) G62 ?_ ?_
                      · exact ⟨s13_48, s14_48, s15_48, s16_48, rfl, rfl, rfl, rfl, rfl, rfl, rfl, s259_48, e56, o0_48, n0_48, (i0_48.lift (Lift.sub (fun _ h => ⟨h.1, trivial⟩))), (i1_48.lift (Lift.sub (fun _ h => ⟨h.1, trivial⟩))), (i49_0.lift (Lift.sub (fun _ h => ⟨h.1, trivial⟩))), (i51_0.lift (Lift.sub (fun _ h => ⟨h.1, trivial⟩))), (i53_0.lift (Lift.sub (fun _ h => ⟨h.1, trivial⟩))), (i55_0.lift (Lift.sub (fun _ h => ⟨h.1, trivial⟩)))⟩
                      · rintro s62 _ _ w63 ⟨s13_63, s14_63, s15_63, s16_63, s23_63, s25_63, s27_63, s28_63, s180_63, s181_63, s182_63, s259_63, hE63, o0_63, n0_63, i0_63, i1_63, i2_63, i3_63, i4_63, i5_63⟩ H62 hr62
                        refine W_seq ?_
                        refine W_reg (by kernel_rfl) ?_
                        refine wla rfl rfl (q_ltI rfl s182_63 s181_63) ?_
                        refine wl_nil ?_
                        refine W_th ?_
                        refine W_seq ?_
                        refine W_cond _ rfl rfl (fun hb64 => ?_) (fun hb64 => ?_)
                        · replace H62 := (if_pos (of_decide_eq_true hb64)).symm.trans H62
                          refine W_skip ?_
                          refine W_th ?_
                          refine W_seq ?_
                          refine W_block ?_
                          refine W_seq ?_
                          refine W_reg (by kernel_rfl) ?_
                          refine wla rfl rfl (q_move (v := (i64 s62)) rfl s182_63) ?_
                          obtain ⟨c65, hc65, H62⟩ := Option.bind_eq_some_iff.1 H62
                          refine wla rfl rfl (q_adr rfl T47 s180_63 s182_63 i4_63 hc65) ?_
                          refine wlq rfl rfl (q_loadS rfl T47 rfl i4_63 hc65) ?_
                          refine wla rfl rfl (q_assign (v := (i64 s62)) rfl rfl) ?_
                          refine wla rfl rfl (q_assign (v := (i64 c65)) rfl rfl) ?_
                          refine wl_nil ?_
                          refine W_th ?_
                          refine W_seq ?_
                          refine W_draw [2, 8, 11, 22] [(0, 0), (1, 0), (2, 1), (3, 0), (4, 0), (5, 0), (6, 0), (7, 0), (8, 1), (9, 0), (10, 0), (11, 1), (12, 0), (13, 0), (14, 0), (15, 0), (16, 0), (17, 0), (18, 0), (19, 0), (20, 0), (21, 0), (22, 1), (23, 0), (24, 0), (25, 0), (26, 0)] mixed (by kernel_rfl) (by kernel_rfl) (by kernel_rfl) (by kernel_rfl) ?_
                          have x66 := Ext.drew w63
                          replace i0_63 := i0_63.lift (Lift.ext x66 _)
                          replace i1_63 := i1_63.lift (Lift.ext x66 _)
                          replace i2_63 := i2_63.lift (Lift.ext x66 _)
                          replace i3_63 := i3_63.lift (Lift.ext x66 _)
                          replace i4_63 := i4_63.lift (Lift.ext x66 _)
                          replace i5_63 := i5_63.lift (Lift.ext x66 _)
                          replace o0_63 := o0_63.ext x66
                          have e67 := hE63.trans x66
                          refine wsa rfl rfl rfl (q_move (v := (mp g14)) rfl s16_63) ?_
                          refine wsa rfl rfl rfl (q_move (v := (i64 c65)) rfl rfl) ?_
                          refine wsq rfl rfl rfl (q_lookupJ rfl Try.underlying56 Try.underlying3 Try.zeroValue5 rfl rfl o0_63) ?_
                          refine wsa rfl rfl rfl (q_eq8 rfl rfl (cst8 (0 : UInt8) rfl)) ?_
                          refine wsb rfl rfl rfl (q_move (v := (.bool ((decide ((mgetJ x17 c65) = (0 : UInt8)))))) rfl rfl) (fun hb68 => ?_) (fun hb68 => ?_)
                          · replace H62 := (if_pos (of_decide_eq_true hb68)).symm.trans H62
                            refine wsk rfl rfl rfl ?_
                            refine wsk rfl rfl rfl ?_
                            refine wsk rfl rfl rfl ?_
                            refine wsk rfl rfl rfl ?_
                            refine wsk rfl rfl rfl ?_
                            refine wsk rfl rfl rfl ?_
                            refine wsk rfl rfl rfl ?_
                            refine wsk rfl rfl rfl ?_
                            refine wsa rfl rfl rfl (q_pick_t (v := (.bool true)) rfl rfl rfl) ?_
                            refine wsa rfl rfl rfl (q_move (v := (.bool true)) rfl rfl) ?_
                            refine wsk rfl rfl rfl ?_
                            refine wsk rfl rfl rfl ?_
                            refine wsk rfl rfl rfl ?_
                            refine wsk rfl rfl rfl ?_
                            refine wsk rfl rfl rfl ?_
                            refine wsk rfl rfl rfl ?_
                            refine wsk rfl rfl rfl ?_
                            refine wsk rfl rfl rfl ?_
                            refine wsk rfl rfl rfl ?_
                            refine wsk rfl rfl rfl ?_
                            refine wsk rfl rfl rfl ?_
                            refine wsa rfl rfl rfl (q_pick_t (v := (.bool true)) rfl rfl rfl) ?_
                            refine ws_nil ?_
                            refine W_th ?_
                            refine W_cond true rfl rfl (fun _ => ?_) (fun hb => by cases hb)
                            refine W_seq ?_
                            refine W_reg (by kernel_rfl) ?_
                            refine wla rfl rfl (q_assign (v := (.bool false)) rfl rfl) ?_
                            refine wl_nil ?_
                            refine W_th ?_
                            refine W_ret ?_
                            refine bk_r ?_
                            refine th_r ?_
                            obtain rfl := Option.some.inj H62
                            obtain rfl := hr62 _ rfl
                            simp only [Sum.elim_inr] at H
                            refine th_r ?_
                            refine bk_r ?_
                            refine th_r ?_
                            refine th_r ?_
                            obtain rfl := Option.some.inj H
                            refine rt1 (.bool false) rfl rfl rfl s259_63 ?_
                            exact ⟨rfl, e67⟩
                          · replace H62 := (if_neg (of_decide_eq_false hb68)).symm.trans H62
                            refine wsa rfl rfl rfl (q_move (v := v55_0) rfl s28_63) ?_
                            refine wsa rfl rfl rfl (q_move (v := (i64 s62)) rfl rfl) ?_
                            obtain ⟨c69, hc69, H62⟩ := Option.bind_eq_some_iff.1 H62
                            refine wsa rfl rfl rfl (q_adr rfl T22 rfl rfl i5_63 hc69) ?_
                            refine wsq rfl rfl rfl (q_loadS rfl T22 rfl i5_63 hc69) ?_
                            refine wsa rfl rfl rfl (q_move (v := (mp g14)) rfl s16_63) ?_
                            refine wsa rfl rfl rfl (q_move (v := (i64 c65)) rfl rfl) ?_
                            refine wsq rfl rfl rfl (q_lookupJ rfl Try.underlying56 Try.underlying3 Try.zeroValue5 rfl rfl o0_63) ?_
                            refine wsa rfl rfl rfl (q_ne8 rfl rfl rfl) ?_
                            refine wsa rfl rfl rfl (q_pick_f (v := (.bool ((!decide (c69 = (mgetJ x17 c65)))))) rfl rfl rfl) ?_
                            refine wsb rfl rfl rfl (q_move (v := (.bool ((!decide (c69 = (mgetJ x17 c65)))))) rfl rfl) (fun hb70 => ?_) (fun hb70 => ?_)
                            · replace H62 := (if_neg (ndec_t hb70)).symm.trans H62
                              refine wsk rfl rfl rfl ?_
                              refine wsk rfl rfl rfl ?_
                              refine wsk rfl rfl rfl ?_
                              refine wsk rfl rfl rfl ?_
                              refine wsk rfl rfl rfl ?_
                              refine wsk rfl rfl rfl ?_
                              refine wsk rfl rfl rfl ?_
                              refine wsk rfl rfl rfl ?_
                              refine wsk rfl rfl rfl ?_
                              refine wsk rfl rfl rfl ?_
                              refine wsk rfl rfl rfl ?_
                              refine wsa rfl rfl rfl (q_pick_t (v := (.bool true)) rfl rfl rfl) ?_
                              refine ws_nil ?_
                              refine W_th ?_
                              refine W_cond true rfl rfl (fun _ => ?_) (fun hb => by cases hb)
                              refine W_seq ?_
                              refine W_reg (by kernel_rfl) ?_
                              refine wla rfl rfl (q_assign (v := (.bool false)) rfl rfl) ?_
                              refine wl_nil ?_
                              refine W_th ?_
                              refine W_ret ?_
                              refine bk_r ?_
                              refine th_r ?_
                              obtain rfl := Option.some.inj H62
                              obtain rfl := hr62 _ rfl
                              simp only [Sum.elim_inr] at H
                              refine th_r ?_
                              refine bk_r ?_
                              refine th_r ?_
                              refine th_r ?_
                              obtain rfl := Option.some.inj H
                              refine rt1 (.bool false) rfl rfl rfl s259_63 ?_
                              exact ⟨rfl, e67⟩
                            · replace H62 := (if_pos (ndec_f hb70)).symm.trans H62
                              refine wsa rfl rfl rfl (q_move (v := (i64 s62)) rfl rfl) ?_
                              refine wsa rfl rfl rfl (q_gtI rfl rfl rfl) ?_
                              refine wsb rfl rfl rfl (q_move (v := (.bool ((decide (0 < s62))))) rfl rfl) (fun hb71 => ?_) (fun hb71 => ?_)
                              · replace H62 := (if_pos (of_decide_eq_true hb71)).symm.trans H62
                                refine wsa rfl rfl rfl (q_move (v := v53) rfl s27_63) ?_
                                refine wsa rfl rfl rfl (q_move (v := (i64 s62)) rfl rfl) ?_
                                refine wsa rfl rfl rfl (q_subI rfl rfl rfl) ?_
                                obtain ⟨c72, hc72, H62⟩ := Option.bind_eq_some_iff.1 H62
                                refine wsa rfl rfl rfl (q_adr rfl T47 rfl rfl i4_63 hc72) ?_
                                refine wsq rfl rfl rfl (q_loadS rfl T47 rfl i4_63 hc72) ?_
                                refine wsa rfl rfl rfl (q_move (v := (i64 c65)) rfl rfl) ?_
                                refine wsa rfl rfl rfl (q_geI rfl rfl rfl) ?_
                                refine wsa rfl rfl rfl (q_pick_t (v := (.bool ((decide (c65 ≤ c72))))) rfl rfl rfl) ?_
                                refine wsa rfl rfl rfl (q_pick_f (v := (.bool ((decide (c65 ≤ c72))))) rfl rfl rfl) ?_
                                refine ws_nil ?_
                                refine W_th ?_
                                refine W_cond _ rfl rfl (fun hb73 => ?_) (fun hb73 => ?_)
                                · replace H62 := (if_pos (of_decide_eq_true hb73)).symm.trans H62
                                  refine W_seq ?_
                                  refine W_reg (by kernel_rfl) ?_
                                  refine wla rfl rfl (q_assign (v := (.bool false)) rfl rfl) ?_
                                  refine wl_nil ?_
                                  refine W_th ?_
                                  refine W_ret ?_
                                  refine bk_r ?_
                                  refine th_r ?_
                                  obtain rfl := Option.some.inj H62
                                  obtain rfl := hr62 _ rfl
                                  simp only [Sum.elim_inr] at H
                                  refine th_r ?_
                                  refine bk_r ?_
                                  refine th_r ?_
                                  refine th_r ?_
                                  obtain rfl := Option.some.inj H
                                  refine rt1 (.bool false) rfl rfl rfl s259_63 ?_
                                  exact ⟨rfl, e67⟩
                                · replace H62 := (if_neg (of_decide_eq_false hb73)).symm.trans H62
                                  refine W_skip ?_
                                  refine bk_n ?_
                                  refine W_th ?_
                                  refine W_reg (by kernel_rfl) ?_
                                  refine wla rfl rfl (q_addI rfl s182_63 rfl) ?_
                                  refine wla rfl rfl (q_move (v := (i64 ((wI (s62 + 1))))) rfl rfl) ?_
                                  refine wl_nil ?_
                                  obtain rfl := Option.some.inj H62
                                  exact ⟨_, rfl, s13_63, s14_63, s15_63, s16_63, s23_63, s25_63, s27_63, s28_63, s180_63, s181_63, rfl, s259_63, e67, o0_63, n0_63, i0_63, i1_63, i2_63, i3_63, i4_63, i5_63⟩
                              · replace H62 := (if_neg (of_decide_eq_false hb71)).symm.trans H62
                                refine wsk rfl rfl rfl ?_
                                refine wsk rfl rfl rfl ?_
                                refine wsk rfl rfl rfl ?_
                                refine wsk rfl rfl rfl ?_
                                refine wsk rfl rfl rfl ?_
                                refine wsk rfl rfl rfl ?_
                                refine wsk rfl rfl rfl ?_
                                refine wsa rfl rfl rfl (q_pick_f (v := (.bool false)) rfl rfl rfl) ?_
                                refine wsa rfl rfl rfl (q_pick_f (v := (.bool false)) rfl rfl rfl) ?_
                                refine ws_nil ?_
                                refine W_th ?_
                                refine W_cond false rfl rfl (fun hb => by cases hb) (fun _ => ?_)
                                refine W_skip ?_
                                refine bk_n ?_
                                refine W_th ?_
                                refine W_reg (by kernel_rfl) ?_
                                refine wla rfl rfl (q_addI rfl s182_63 rfl) ?_
                                refine wla rfl rfl (q_move (v := (i64 ((wI (s62 + 1))))) rfl rfl) ?_
                                refine wl_nil ?_
                                obtain rfl := Option.some.inj H62
                                exact ⟨_, rfl, s13_63, s14_63, s15_63, s16_63, s23_63, s25_63, s27_63, s28_63, s180_63, s181_63, rfl, s259_63, e67, o0_63, n0_63, i0_63, i1_63, i2_63, i3_63, i4_63, i5_63⟩
                        · replace H62 := (if_neg (of_decide_eq_false hb64)).symm.trans H62
                          refine W_exit ?_
                          refine th_x ?_
                          obtain rfl := Option.some.inj H62
                          obtain rfl := hr62 _ rfl
                          refine th_x ?_
                          refine bk_x ?_
                          exact ⟨_, rfl, s13_63, s14_63, s15_63, s23_63, s25_63, s259_63, hE63, (i0_63.lift (Lift.sub (fun _ h => trivial))), (i1_63.lift (Lift.sub (fun _ h => trivial))), (i2_63.lift (Lift.sub (fun _ h => trivial))), (i3_63.lift (Lift.sub (fun _ h => trivial)))⟩
                    · rintro _ w75 ⟨y62, rfl, s13_75, s14_75, s15_75, s23_75, s25_75, s259_75, hE75, i0_75, i1_75, i2_75, i3_75⟩
                      simp only [Sum.elim_inl] at H
                      refine W_th ?_
                      refine W_seq ?_
                      refine W_reg (by kernel_rfl) ?_
                      refine wla rfl rfl (q_move (v := v9) rfl s13_75) ?_
                      refine wla rfl rfl (q_move (v := v49_0) rfl s23_75) ?_
                      refine wla rfl rfl (q_move (v := v51_0) rfl s25_75) ?_
                      refine wla rfl rfl (q_move (v := v11) rfl s15_75) ?_
                      refine wla rfl rfl (q_move (v := (i64 ((wI ((wI (1 + (wI ((((UInt64.ofInt a0t) % (6 : UInt64))).toNat : Int)))) + (wI ((((UInt64.ofInt a1more) % (11 : UInt64))).toNat : Int))))))) rfl s14_75) ?_
                      refine wls rfl rfl (stp_lit (L := []) (R := (Sc i64)) [(i64 ((wI ((wI (1 + (wI ((((UInt64.ofInt a0t) % (6 : UInt64))).toNat : Int)))) + (wI ((((UInt64.ofInt a1more) % (11 : UInt64))).toNat : Int))))))] ([(wI ((wI (1 + (wI ((((UInt64.ofInt a0t) % (6 : UInt64))).toNat : Int)))) + (wI ((((UInt64.ofInt a1more) % (11 : UInt64))).toNat : Int))))] : List Int) rfl T47 rfl (by exact ⟨rfl, rfl, trivial⟩) rfl (litC i64 (oneC_i64) (us := [(i64 ((wI ((wI (1 + (wI ((((UInt64.ofInt a0t) % (6 : UInt64))).toNat : Int)))) + (wI ((((UInt64.ofInt a1more) % (11 : UInt64))).toNat : Int))))))]) (l := ([(wI ((wI (1 + (wI ((((UInt64.ofInt a0t) % (6 : UInt64))).toNat : Int)))) + (wI ((((UInt64.ofInt a1more) % (11 : UInt64))).toNat : Int))))] : List Int)) rfl) rfl (litS i64 (us := [(i64 ((wI ((wI (1 + (wI ((((UInt64.ofInt a0t) % (6 : UInt64))).toNat : Int)))) + (wI ((((UInt64.ofInt a1more) % (11 : UInt64))).toNat : Int))))))]) (l := ([(wI ((wI (1 + (wI ((((UInt64.ofInt a0t) % (6 : UInt64))).toNat : Int)))) + (wI ((((UInt64.ofInt a1more) % (11 : UInt64))).toNat : Int))))] : List Int)) rfl) ?_)
                      intro v76 w76 o76 n76 g76 l76
                      have x76 := grown_ext g76
                      have i76 : In w76 [] v76 (([(wI ((wI (1 + (wI ((((UInt64.ofInt a0t) % (6 : UInt64))).toNat : Int)))) + (wI ((((UInt64.ofInt a1more) % (11 : UInt64))).toNat : Int))))] : List Int)) := OwK.slk (Sc.stab _) _ o76 (fun k hk => (Old.nil _) k (n76 k hk)) (fun _ h => h.2)
                      replace i0_75 := i0_75.lift (Lift.ext x76 _)
                      replace i1_75 := i1_75.lift (Lift.ext x76 _)
                      replace i2_75 := i2_75.lift (Lift.ext x76 _)
                      replace i3_75 := i3_75.lift (Lift.ext x76 _)
                      have e77 := hE75.trans x76
                      obtain ⟨r78, hr78, H⟩ := Option.bind_eq_some_iff.1 H
                      refine wls rfl rfl (stp_call (vs := [v9, v49_0, v51_0, v11, v76]) Try.func31 rfl rfl rfl (ar5 rfl rfl rfl rfl rfl) (syndrome_Values_calls r9 r49.1 r51.1 r11 ([(wI ((wI (1 + (wI ((((UInt64.ofInt a0t) % (6 : UInt64))).toNat : Int)))) + (wI ((((UInt64.ofInt a1more) % (11 : UInt64))).toNat : Int))))] : List Int) v9 v49_0 v51_0 v11 v76 r78 _ (i0_75.lift (Lift.sub (fun _ _ => trivial))) (i2_75.lift (Lift.sub (fun _ _ => trivial))) (i3_75.lift (Lift.sub (fun _ _ => trivial))) (i1_75.lift (Lift.sub (fun _ _ => trivial))) (i76.lift (Lift.sub (fun _ _ => trivial))) hr78) ?_)
                      rintro _ w78 ⟨v78_0, rfl, x78, n78_0, o78_0⟩
                      refine ⟨_, rfl, ?_⟩
                      have i78_0 : By w78 [] v78_0 r78.1 := OwK.slk (Sc.stab _) _ (OwK.scal o78_0 (v78_0 :: [])) (fun k hk => (Old.nil _) k (n78_0 k hk)) (fun _ h => h.2)
                      replace i0_75 := i0_75.lift (Lift.ext x78 _)
                      replace i1_75 := i1_75.lift (Lift.ext x78 _)
                      replace i2_75 := i2_75.lift (Lift.ext x78 _)
                      replace i3_75 := i3_75.lift (Lift.ext x78 _)
                      replace i76 := i76.lift (Lift.ext x78 _)
                      have e79 := e77.trans x78
                      refine wla rfl rfl (q_move (v := (.tuple #[v78_0, (i64 r78.2)])) rfl rfl) ?_
                      refine wla rfl rfl (q_extract rfl rfl rfl) ?_
                      refine wla rfl rfl (q_extract rfl rfl rfl) ?_
                      refine wla rfl rfl (q_assign (v := v78_0) rfl rfl) ?_
                      refine wla rfl rfl (q_assign (v := (i64 r78.2)) rfl rfl) ?_
                      refine wl_nil ?_
                      refine W_th ?_
                      refine W_seq ?_
                      refine W_reg (by kernel_rfl) ?_
                      refine wla rfl rfl (q_move (v := v49_0) rfl s23_75) ?_
                      refine wla rfl rfl (q_move (v := v51_0) rfl s25_75) ?_
                      refine wla rfl rfl (q_move (v := v11) rfl s15_75) ?_
                      obtain ⟨r80, hr80, H⟩ := Option.bind_eq_some_iff.1 H
                      refine wls rfl rfl (stp_call (vs := [(.pointer none), v49_0, v51_0, v11, (.slice none 0 0)]) Try.func31 rfl rfl rfl (ar5 rfl rfl rfl rfl rfl) (syndrome_Values_calls false r49.1 r51.1 r11 ([] : List Int) (.pointer none) v49_0 v51_0 v11 (.slice none 0 0) r80 _ (Fd.nil _ _) (i2_75.lift (Lift.sub (fun _ _ => trivial))) (i3_75.lift (Lift.sub (fun _ _ => trivial))) (i1_75.lift (Lift.sub (fun _ _ => trivial))) (SlK.nil _ _ _) hr80) ?_)
                      rintro _ w80 ⟨v80_0, rfl, x80, n80_0, o80_0⟩
                      refine ⟨_, rfl, ?_⟩
                      have i80_0 : By w80 [] v80_0 r80.1 := OwK.slk (Sc.stab _) _ (OwK.scal o80_0 (v80_0 :: [])) (fun k hk => (Old.nil _) k (n80_0 k hk)) (fun _ h => h.2)
                      replace i0_75 := i0_75.lift (Lift.ext x80 _)
                      replace i1_75 := i1_75.lift (Lift.ext x80 _)
                      replace i2_75 := i2_75.lift (Lift.ext x80 _)
                      replace i3_75 := i3_75.lift (Lift.ext x80 _)
                      replace i76 := i76.lift (Lift.ext x80 _)
                      replace i78_0 := i78_0.lift (Lift.ext x80 _)
                      have e81 := e79.trans x80
                      refine wla rfl rfl (q_move (v := (.tuple #[v80_0, (i64 r80.2)])) rfl rfl) ?_
                      refine wla rfl rfl (q_extract rfl rfl rfl) ?_
                      refine wla rfl rfl (q_extract rfl rfl rfl) ?_
                      refine wla rfl rfl (q_assign (v := v80_0) rfl rfl) ?_
                      refine wla rfl rfl (q_assign (v := (i64 r80.2)) rfl rfl) ?_
                      refine wl_nil ?_
                      refine W_th ?_
                      refine W_seq ?_
                      refine W_reg (by kernel_rfl) ?_
                      refine wla rfl rfl (q_move (v := v9) rfl s13_75) ?_
                      refine wla rfl rfl (q_move (v := v49_0) rfl s23_75) ?_
                      refine wls rfl rfl (stp_lit (L := []) (R := (Sc u8)) [(u8 1)] ([(1 : UInt8)] : List UInt8) rfl T22 rfl (by exact ⟨rfl, (cst8 (1 : UInt8) rfl), trivial⟩) rfl (litC u8 (oneC_u8) (us := [(u8 1)]) (l := ([(1 : UInt8)] : List UInt8)) rfl) rfl (litS u8 (us := [(u8 1)]) (l := ([(1 : UInt8)] : List UInt8)) rfl) ?_)
                      intro v82 w82 o82 n82 g82 l82
                      have x82 := grown_ext g82
                      have i82 : By w82 [] v82 (([(1 : UInt8)] : List UInt8)) := OwK.slk (Sc.stab _) _ o82 (fun k hk => (Old.nil _) k (n82 k hk)) (fun _ h => h.2)
                      replace i0_75 := i0_75.lift (Lift.ext x82 _)
                      replace i1_75 := i1_75.lift (Lift.ext x82 _)
                      replace i2_75 := i2_75.lift (Lift.ext x82 _)
                      replace i3_75 := i3_75.lift (Lift.ext x82 _)
                      replace i76 := i76.lift (Lift.ext x82 _)
                      replace i78_0 := i78_0.lift (Lift.ext x82 _)
                      replace i80_0 := i80_0.lift (Lift.ext x82 _)
                      have e83 := e81.trans x82
                      refine wla rfl rfl (q_move (v := v11) rfl s15_75) ?_
                      refine wls rfl rfl (stp_lit (L := []) (R := (Sc i64)) [(i64 0)] ([0] : List Int) rfl T47 rfl (by exact ⟨rfl, rfl, trivial⟩) rfl (litC i64 (oneC_i64) (us := [(i64 0)]) (l := ([0] : List Int)) rfl) rfl (litS i64 (us := [(i64 0)]) (l := ([0] : List Int)) rfl) ?_)
                      intro v84 w84 o84 n84 g84 l84
                      have x84 := grown_ext g84
                      have i84 : In w84 [] v84 (([0] : List Int)) := OwK.slk (Sc.stab _) _ o84 (fun k hk => (Old.nil _) k (n84 k hk)) (fun _ h => h.2)
                      replace i0_75 := i0_75.lift (Lift.ext x84 _)
                      replace i1_75 := i1_75.lift (Lift.ext x84 _)
                      replace i2_75 := i2_75.lift (Lift.ext x84 _)
                      replace i3_75 := i3_75.lift (Lift.ext x84 _)
                      replace i76 := i76.lift (Lift.ext x84 _)
                      replace i78_0 := i78_0.lift (Lift.ext x84 _)
                      replace i80_0 := i80_0.lift (Lift.ext x84 _)
                      replace i82 := i82.lift (Lift.ext x84 _)
                      have e85 := e83.trans x84
                      obtain ⟨r86, hr86, H⟩ := Option.bind_eq_some_iff.1 H
                      refine wls rfl rfl (stp_call (vs := [v9, v49_0, v82, v11, v84]) Try.func31 rfl rfl rfl (ar5 rfl rfl rfl rfl rfl) (syndrome_Values_calls r9 r49.1 ([(1 : UInt8)] : List UInt8) r11 ([0] : List Int) v9 v49_0 v82 v11 v84 r86 _ (i0_75.lift (Lift.sub (fun _ _ => trivial))) (i2_75.lift (Lift.sub (fun _ _ => trivial))) (i82.lift (Lift.sub (fun _ _ => trivial))) (i1_75.lift (Lift.sub (fun _ _ => trivial))) (i84.lift (Lift.sub (fun _ _ => trivial))) hr86) ?_)
                      rintro _ w86 ⟨v86_0, rfl, x86, n86_0, o86_0⟩
                      refine ⟨_, rfl, ?_⟩
                      have i86_0 : By w86 [] v86_0 r86.1 := OwK.slk (Sc.stab _) _ (OwK.scal o86_0 (v86_0 :: [])) (fun k hk => (Old.nil _) k (n86_0 k hk)) (fun _ h => h.2)
                      replace i0_75 := i0_75.lift (Lift.ext x86 _)
                      replace i1_75 := i1_75.lift (Lift.ext x86 _)
                      replace i2_75 := i2_75.lift (Lift.ext x86 _)
                      replace i3_75 := i3_75.lift (Lift.ext x86 _)
                      replace i76 := i76.lift (Lift.ext x86 _)
                      replace i78_0 := i78_0.lift (Lift.ext x86 _)
                      replace i80_0 := i80_0.lift (Lift.ext x86 _)
                      replace i82 := i82.lift (Lift.ext x86 _)
                      replace i84 := i84.lift (Lift.ext x86 _)
                      have e87 := e85.trans x86
                      refine wla rfl rfl (q_move (v := (.tuple #[v86_0, (i64 r86.2)])) rfl rfl) ?_
                      refine wla rfl rfl (q_extract rfl rfl rfl) ?_
                      refine wla rfl rfl (q_extract rfl rfl rfl) ?_
                      refine wla rfl rfl (q_assign (v := v86_0) rfl rfl) ?_
                      refine wla rfl rfl (q_assign (v := (i64 r86.2)) rfl rfl) ?_
                      refine wl_nil ?_
                      refine W_th ?_
                      refine W_seq ?_
                      refine W_reg (by kernel_rfl) ?_
                      refine wla rfl rfl (q_move (v := (i64 r78.2)) rfl rfl) ?_
                      refine wla rfl rfl (q_eqI rfl rfl rfl) ?_
                      refine wlb rfl rfl (q_move (v := (.bool ((decide (r78.2 = 2))))) rfl rfl) (fun hb88 => ?_) (fun hb88 => ?_)
                      · replace H := (if_pos (of_decide_eq_true hb88)).symm.trans H
                        refine wla rfl rfl (q_move (v := (i64 r80.2)) rfl rfl) ?_
                        refine wla rfl rfl (q_eqI rfl rfl rfl) ?_
                        refine wla rfl rfl (q_pick_t (v := (.bool ((decide (r80.2 = 1))))) rfl rfl rfl) ?_
                        refine wlb rfl rfl (q_move (v := (.bool ((decide (r80.2 = 1))))) rfl rfl) (fun hb89 => ?_) (fun hb89 => ?_)
                        · replace H := (if_pos (of_decide_eq_true hb89)).symm.trans H
                          refine wla rfl rfl (q_move (v := (i64 r86.2)) rfl rfl) ?_
                          refine wla rfl rfl (q_eqI rfl rfl rfl) ?_
                          refine wla rfl rfl (q_pick_t (v := (.bool ((decide (r86.2 = 7))))) rfl rfl rfl) ?_
                          refine wlb rfl rfl (q_move (v := (.bool ((decide (r86.2 = 7))))) rfl rfl) (fun hb90 => ?_) (fun hb90 => ?_)
                          · replace H := (if_pos (of_decide_eq_true hb90)).symm.trans H
                            refine wla rfl rfl (q_move (v := v9) rfl s13_75) ?_
                            refine wla rfl rfl (q_move (v := v51_0) rfl s25_75) ?_
                            refine wls rfl rfl (stp_lit (L := []) (R := (Sc u8)) [(u8 0)] ([(0 : UInt8)] : List UInt8) rfl T22 rfl (by exact ⟨rfl, (cst8 (0 : UInt8) rfl), trivial⟩) rfl (litC u8 (oneC_u8) (us := [(u8 0)]) (l := ([(0 : UInt8)] : List UInt8)) rfl) rfl (litS u8 (us := [(u8 0)]) (l := ([(0 : UInt8)] : List UInt8)) rfl) ?_)
                            intro v91 w91 o91 n91 g91 l91
                            have x91 := grown_ext g91
                            have i91 : By w91 [] v91 (([(0 : UInt8)] : List UInt8)) := OwK.slk (Sc.stab _) _ o91 (fun k hk => (Old.nil _) k (n91 k hk)) (fun _ h => h.2)
                            replace i0_75 := i0_75.lift (Lift.ext x91 _)
                            replace i1_75 := i1_75.lift (Lift.ext x91 _)
                            replace i2_75 := i2_75.lift (Lift.ext x91 _)
                            replace i3_75 := i3_75.lift (Lift.ext x91 _)
                            replace i76 := i76.lift (Lift.ext x91 _)
                            replace i78_0 := i78_0.lift (Lift.ext x91 _)
                            replace i80_0 := i80_0.lift (Lift.ext x91 _)
                            replace i82 := i82.lift (Lift.ext x91 _)
                            replace i84 := i84.lift (Lift.ext x91 _)
                            replace i86_0 := i86_0.lift (Lift.ext x91 _)
                            have e92 := e87.trans x91
                            obtain ⟨r93, hr93, H⟩ := Option.bind_eq_some_iff.1 H
                            refine wls rfl rfl (stp_call (vs := [v9, v51_0, v91]) Try.func30 rfl rfl rfl (ar3 rfl rfl rfl) (syndrome_Located_calls r9 r51.1 ([(0 : UInt8)] : List UInt8) v9 v51_0 v91 r93 _ (i0_75.lift (Lift.sub (fun _ _ => trivial))) (i3_75.lift (Lift.sub (fun _ _ => trivial))) (i91.lift (Lift.sub (fun _ _ => trivial))) hr93) ?_)
                            rintro _ w93 ⟨v93, rfl, x93, n93_0, o93_0⟩
                            refine ⟨_, rfl, ?_⟩
                            have i93_0 : In w93 [] v93 r93 := OwK.slk (Sc.stab _) _ (OwK.scal o93_0 (v93 :: [])) (fun k hk => (Old.nil _) k (n93_0 k hk)) (fun _ h => h.2)
                            replace i0_75 := i0_75.lift (Lift.ext x93 _)
                            replace i1_75 := i1_75.lift (Lift.ext x93 _)
                            replace i2_75 := i2_75.lift (Lift.ext x93 _)
                            replace i3_75 := i3_75.lift (Lift.ext x93 _)
                            replace i76 := i76.lift (Lift.ext x93 _)
                            replace i78_0 := i78_0.lift (Lift.ext x93 _)
                            replace i80_0 := i80_0.lift (Lift.ext x93 _)
                            replace i82 := i82.lift (Lift.ext x93 _)
                            replace i84 := i84.lift (Lift.ext x93 _)
                            replace i86_0 := i86_0.lift (Lift.ext x93 _)
                            replace i91 := i91.lift (Lift.ext x93 _)
                            have e94 := e92.trans x93
                            refine wla rfl rfl (q_len rfl T47.sl rfl i93_0) ?_
                            refine wla rfl rfl (q_eqI rfl rfl rfl) ?_
                            refine wla rfl rfl (q_pick_t (v := (.bool ((decide ((r93.length : Int) = 0))))) rfl rfl rfl) ?_
                            refine wla rfl rfl (q_assign (v := (.bool ((decide ((r93.length : Int) = 0))))) rfl rfl) ?_
                            refine wl_nil ?_
                            refine W_th ?_
                            refine W_ret ?_
                            obtain rfl := Option.some.inj H
                            refine rt1 (.bool ((decide ((r93.length : Int) = 0)))) rfl rfl rfl s259_75 ?_
                            exact ⟨rfl, e94⟩
                          · replace H := (if_neg (of_decide_eq_false hb90)).symm.trans H
                            refine wlk rfl rfl ?_
                            refine wlk rfl rfl ?_
                            refine wlk rfl rfl ?_
                            refine wlk rfl rfl ?_
                            refine wlk rfl rfl ?_
                            refine wlk rfl rfl ?_
                            refine wla rfl rfl (q_pick_f (v := (.bool false)) rfl rfl rfl) ?_
                            refine wla rfl rfl (q_assign (v := (.bool false)) rfl rfl) ?_
                            refine wl_nil ?_
                            refine W_th ?_
                            refine W_ret ?_
                            obtain rfl := Option.some.inj H
                            refine rt1 (.bool false) rfl rfl rfl s259_75 ?_
                            exact ⟨rfl, e87⟩
                        · replace H := (if_neg (of_decide_eq_false hb89)).symm.trans H
                          refine wlk rfl rfl ?_
                          refine wlk rfl rfl ?_
                          refine wla rfl rfl (q_pick_f (v := (.bool false)) rfl rfl rfl) ?_
                          refine wla rfl rfl (q_move (v := (.bool false)) rfl rfl) ?_
                          refine wlk rfl rfl ?_
                          refine wlk rfl rfl ?_
                          refine wlk rfl rfl ?_
                          refine wlk rfl rfl ?_
                          refine wlk rfl rfl ?_
                          refine wlk rfl rfl ?_
                          refine wla rfl rfl (q_pick_f (v := (.bool false)) rfl rfl rfl) ?_
                          refine wla rfl rfl (q_assign (v := (.bool false)) rfl rfl) ?_
                          refine wl_nil ?_
                          refine W_th ?_
                          refine W_ret ?_
                          obtain rfl := Option.some.inj H
                          refine rt1 (.bool false) rfl rfl rfl s259_75 ?_
                          exact ⟨rfl, e87⟩
                      · replace H := (if_neg (of_decide_eq_false hb88)).symm.trans H
                        refine wlk rfl rfl ?_
                        refine wlk rfl rfl ?_
                        refine wla rfl rfl (q_pick_f (v := (.bool false)) rfl rfl rfl) ?_
                        refine wla rfl rfl (q_move (v := (.bool false)) rfl rfl) ?_
                        refine wlk rfl rfl ?_
                        refine wlk rfl rfl ?_
                        refine wla rfl rfl (q_pick_f (v := (.bool false)) rfl rfl rfl) ?_
                        refine wla rfl rfl (q_move (v := (.bool false)) rfl rfl) ?_
                        refine wlk rfl rfl ?_
                        refine wlk rfl rfl ?_
                        refine wlk rfl rfl ?_
                        refine wlk rfl rfl ?_
                        refine wlk rfl rfl ?_
                        refine wlk rfl rfl ?_
                        refine wla rfl rfl (q_pick_f (v := (.bool false)) rfl rfl rfl) ?_
                        refine wla rfl rfl (q_assign (v := (.bool false)) rfl rfl) ?_
                        refine wl_nil ?_
                        refine W_th ?_
                        refine W_ret ?_
                        obtain rfl := Option.some.inj H
                        refine rt1 (.bool false) rfl rfl rfl s259_75 ?_
                        exact ⟨rfl, e87⟩

end Gk

/- Printed by gen.py: for each Go function a pure function, and that the Go code comes to it. No condition beside the equation that says what the pure function gives. -/

set_option linter.unusedVariables false
set_option linter.unusedSimpArgs false
namespace Gk
open Go Go.Proofs

/-! largesse/largesselaw30.SyndromeCorrects -/
noncomputable def law30_SyndromeCorrects (a0t : Int) (a1xs : List UInt8) (a2ys : List UInt8) : Option Bool :=
((law30_lives ).bind fun r1 =>
(if (!r1) = true then
((law30_lives ).bind fun r4 => some r4)
else
(if 16 < (a1xs.length : Int) then
((law30_lives ).bind fun r7 => some r7)
else
(if 16 < (a2ys.length : Int) then
((law30_lives ).bind fun r10 => some r10)
else
((field_New ).bind fun r12 =>
((iterC (fun s14 : Int =>
(if s14 < (a1xs.length : Int) then
((idx a1xs s14).bind fun c17 =>
(if c17 = (0 : UInt8) then
((syndrome_Correct r12 a0t a1xs a2ys).bind fun r19 =>
(if r19.2.2 = 2 then some (.inr (.inr true))
else
(if (a1xs.length : Int) = (a2ys.length : Int) then some (.inr (.inr false))
else some (.inr (.inr (decide (r19.2.2 = 1)))))))
else some (.inl (wI (s14 + 1)))))
else some (.inr (.inl ())))) 0).bind (Sum.elim (fun y14 =>
((syndrome_Correct r12 a0t a1xs a2ys).bind fun r25 =>
((mend_Column r12 a0t a1xs a2ys (a1xs.length : Int)).bind fun r27 =>
(if r25.2.2 = r27.2 then
(if r25.2.2 = 0 then
((iterC (fun s31 : Int × Int =>
(if s31.2 < (a1xs.length : Int) then
((idx a1xs s31.2).bind fun c34 =>
((poly_Eval r12 r27.1 c34).bind fun r35 =>
((idx r25.1 s31.2).bind fun c37 =>
(if c37 = r35 then
((idx a2ys s31.2).bind fun c39 =>
(if r35 = c39 then some (.inl (s31.1, (wI (s31.2 + 1))))
else
(if (r25.2.1.length : Int) ≤ s31.1 then some (.inr (.inr false))
else
((idx r25.2.1 s31.1).bind fun c42 =>
(if c42 = s31.2 then some (.inl ((wI (s31.1 + 1)), (wI (s31.2 + 1))))
else some (.inr (.inr false)))))))
else some (.inr (.inr false))))))
else some (.inr (.inl s31.1)))) (0, 0)).bind (Sum.elim (fun y31 =>
(if y31 = (r25.2.1.length : Int) then some (decide ((r25.1.length : Int) = (a2ys.length : Int)))
else some false)) (fun q31 => some q31)))
else some (decide ((wI ((r25.1.length : Int) + (r25.2.1.length : Int))) = 0)))
else some false)))) (fun q14 => some q14))))))))
set_option maxRecDepth 100000 in
set_option maxHeartbeats 8000000 in
theorem law30_SyndromeCorrects_calls (a0t : Int) (a1xs : List UInt8) (a2ys : List UInt8) (p1 : Value) (p2 : Value) (r : Bool) (w0 : World) (hp1 : By w0 [] p1 a1xs) (hp2 : By w0 [] p2 a2ys) (H : law30_SyndromeCorrects a0t a1xs a2ys = some r) :
    Calls Try.prog 9 [(i64 a0t), p1, p2].toArray w0 (fun e w' => e = .returned (.bool r) ∧ Ext w0 w') := by
  have hE : Ext w0 w0 := Ext.refl w0
  unfold law30_SyndromeCorrects at H
  refine calls_W (n := 146) Try.func9 rfl rfl rfl ?_
  refine W_seq ?_
  refine W_reg (by kernel_rfl) ?_
  refine wla rfl rfl (q_assign (v := (.bool false)) rfl rfl) ?_
  refine wl_nil ?_
  refine W_th ?_
  refine W_seq ?_
  refine W_seq ?_
  refine W_reg (by kernel_rfl) ?_
  obtain ⟨r1, hr1, H⟩ := Option.bind_eq_some_iff.1 H
  refine wls rfl rfl (stp_call (vs := []) Try.func24 rfl rfl rfl (ar0 ) (law30_lives_calls   r1 _  hr1) ?_)
  rintro _ w1 ⟨rfl, x1⟩
  refine ⟨_, rfl, ?_⟩
  have e2 := hE.trans x1
  refine wla rfl rfl (q_not rfl rfl) ?_
  refine wlb rfl rfl (q_move (v := (.bool ((!r1)))) rfl rfl) (fun hb3 => ?_) (fun hb3 => ?_)
  · replace H := (if_pos hb3).symm.trans H
    refine wlk rfl rfl ?_
    refine wlk rfl rfl ?_
    refine wlk rfl rfl ?_
    refine wla rfl rfl (q_pick_t (v := (.bool true)) rfl rfl rfl) ?_
    refine wla rfl rfl (q_move (v := (.bool true)) rfl rfl) ?_
    refine wlk rfl rfl ?_
    refine wlk rfl rfl ?_
    refine wlk rfl rfl ?_
    refine wla rfl rfl (q_pick_t (v := (.bool true)) rfl rfl rfl) ?_
    refine wl_nil ?_
    refine W_th ?_
    refine W_cond true rfl rfl (fun _ => ?_) (fun hb => by cases hb)
    refine W_seq ?_
    refine W_reg (by kernel_rfl) ?_
    obtain ⟨r4, hr4, H⟩ := Option.bind_eq_some_iff.1 H
    refine wls rfl rfl (stp_call (vs := []) Try.func24 rfl rfl rfl (ar0 ) (law30_lives_calls   r4 _  hr4) ?_)
    rintro _ w4 ⟨rfl, x4⟩
    refine ⟨_, rfl, ?_⟩
    have e5 := e2.trans x4
    refine wla rfl rfl (q_assign (v := (.bool r4)) rfl rfl) ?_
    refine wl_nil ?_
    refine W_th ?_
    refine W_ret ?_
    refine th_r ?_
    obtain rfl := Option.some.inj H
    refine rt1 (.bool r4) rfl rfl rfl rfl ?_
    exact ⟨rfl, e5⟩
  · replace H := (if_neg (ne_true_of_eq_false hb3)).symm.trans H
    refine wla rfl rfl (q_move (v := p1) rfl rfl) ?_
    refine wla rfl rfl (q_len rfl T22.sl rfl (hp1.lift (Lift.ext e2 _))) ?_
    refine wla rfl rfl (q_gtI rfl rfl rfl) ?_
    refine wla rfl rfl (q_pick_f (v := (.bool ((decide (16 < (a1xs.length : Int)))))) rfl rfl rfl) ?_
    refine wlb rfl rfl (q_move (v := (.bool ((decide (16 < (a1xs.length : Int)))))) rfl rfl) (fun hb6 => ?_) (fun hb6 => ?_)
    · replace H := (if_pos (of_decide_eq_true hb6)).symm.trans H
      refine wlk rfl rfl ?_
      refine wlk rfl rfl ?_
      refine wlk rfl rfl ?_
      refine wla rfl rfl (q_pick_t (v := (.bool true)) rfl rfl rfl) ?_
      refine wl_nil ?_
      refine W_th ?_
      refine W_cond true rfl rfl (fun _ => ?_) (fun hb => by cases hb)
      refine W_seq ?_
      refine W_reg (by kernel_rfl) ?_
      obtain ⟨r7, hr7, H⟩ := Option.bind_eq_some_iff.1 H
      refine wls rfl rfl (stp_call (vs := []) Try.func24 rfl rfl rfl (ar0 ) (law30_lives_calls   r7 _  hr7) ?_)
      rintro _ w7 ⟨rfl, x7⟩
      refine ⟨_, rfl, ?_⟩
      have e8 := e2.trans x7
      refine wla rfl rfl (q_assign (v := (.bool r7)) rfl rfl) ?_
      refine wl_nil ?_
      refine W_th ?_
      refine W_ret ?_
      refine th_r ?_
      obtain rfl := Option.some.inj H
      refine rt1 (.bool r7) rfl rfl rfl rfl ?_
      exact ⟨rfl, e8⟩
    · replace H := (if_neg (of_decide_eq_false hb6)).symm.trans H
      refine wla rfl rfl (q_move (v := p2) rfl rfl) ?_
      refine wla rfl rfl (q_len rfl T22.sl rfl (hp2.lift (Lift.ext e2 _))) ?_
      refine wla rfl rfl (q_gtI rfl rfl rfl) ?_
      refine wla rfl rfl (q_pick_f (v := (.bool ((decide (16 < (a2ys.length : Int)))))) rfl rfl rfl) ?_
      refine wl_nil ?_
      refine W_th ?_
      refine W_cond _ rfl rfl (fun hb9 => ?_) (fun hb9 => ?_)
      · replace H := (if_pos (of_decide_eq_true hb9)).symm.trans H
        refine W_seq ?_
        refine W_reg (by kernel_rfl) ?_
        obtain ⟨r10, hr10, H⟩ := Option.bind_eq_some_iff.1 H
        refine wls rfl rfl (stp_call (vs := []) Try.func24 rfl rfl rfl (ar0 ) (law30_lives_calls   r10 _  hr10) ?_)
        rintro _ w10 ⟨rfl, x10⟩
        refine ⟨_, rfl, ?_⟩
        have e11 := e2.trans x10
        refine wla rfl rfl (q_assign (v := (.bool r10)) rfl rfl) ?_
        refine wl_nil ?_
        refine W_th ?_
        refine W_ret ?_
        refine th_r ?_
        obtain rfl := Option.some.inj H
        refine rt1 (.bool r10) rfl rfl rfl rfl ?_
        exact ⟨rfl, e11⟩
      · replace H := (if_neg (of_decide_eq_false hb9)).symm.trans H
        refine W_skip ?_
        refine W_th ?_
        refine W_seq ?_
        refine W_reg (by kernel_rfl) ?_
        obtain ⟨r12, hr12, H⟩ := Option.bind_eq_some_iff.1 H
        refine wls rfl rfl (stp_call (vs := []) Try.func12 rfl rfl rfl (ar0 ) (field_New_calls   r12 _ [] (Old.nil _)  hr12) ?_)
        rintro _ w12 ⟨v12, rfl, x12, i12_0⟩
        refine ⟨_, rfl, ?_⟩
        have e13 := e2.trans x12
        refine wla rfl rfl (q_assign (v := v12) rfl rfl) ?_
        refine wl_nil ?_
        refine W_th ?_
        refine W_seq ?_
        refine W_seq ?_
        refine W_reg (by kernel_rfl) ?_
        refine wla rfl rfl (q_move (v := p1) rfl rfl) ?_
        refine wla rfl rfl (q_len rfl T22.sl rfl (hp1.lift (Lift.ext e13 _))) ?_
        refine wla rfl rfl (q_move (v := (i64 0)) rfl rfl) ?_
        refine wl_nil ?_
        refine W_th ?_
        obtain ⟨x14, G14, H⟩ := Option.bind_eq_some_iff.1 H
        refine W_mid (fun f w => ∃ y14, x14 = .inl y14 ∧ f 0 = (i64 a0t) ∧ f 1 = p1 ∧ f 2 = p2 ∧ f 7 = v12 ∧ f 146 = undef ∧ Ext w0 w ∧ Fd w [] v12 r12) ?_ ?_
        · refine W_block ?_
          refine W_loop (fun s14 f w => f 0 = (i64 a0t) ∧ f 1 = p1 ∧ f 2 = p2 ∧ f 7 = v12 ∧ f 36 = p1 ∧ f 37 = (i64 ((a1xs.length : Int))) ∧ f 38 = (i64 s14) ∧ f 146 = undef ∧ Ext w0 w ∧ Fd w [] v12 r12) G14 ?_ ?_
          · exact ⟨rfl, rfl, rfl, rfl, rfl, rfl, rfl, rfl, e13, i12_0⟩
          · rintro s14 _ _ w15 ⟨s0_15, s1_15, s2_15, s7_15, s36_15, s37_15, s38_15, s146_15, hE15, i0_15⟩ H14 hr14
            refine W_seq ?_
            refine W_reg (by kernel_rfl) ?_
            refine wla rfl rfl (q_ltI rfl s38_15 s37_15) ?_
            refine wl_nil ?_
            refine W_th ?_
            refine W_seq ?_
            refine W_cond _ rfl rfl (fun hb16 => ?_) (fun hb16 => ?_)
            · replace H14 := (if_pos (of_decide_eq_true hb16)).symm.trans H14
              refine W_skip ?_
              refine W_th ?_
              refine W_seq ?_
              refine W_block ?_
              refine W_seq ?_
              refine W_reg (by kernel_rfl) ?_
              obtain ⟨c17, hc17, H14⟩ := Option.bind_eq_some_iff.1 H14
              refine wla rfl rfl (q_adr rfl T22 s36_15 s38_15 (hp1.lift (Lift.ext hE15 _)) hc17) ?_
              refine wlq rfl rfl (q_loadS rfl T22 rfl (hp1.lift (Lift.ext hE15 _)) hc17) ?_
              refine wla rfl rfl (q_assign (v := (u8 c17)) rfl rfl) ?_
              refine wl_nil ?_
              refine W_th ?_
              refine W_seq ?_
              refine W_reg (by kernel_rfl) ?_
              refine wla rfl rfl (q_move (v := (u8 c17)) rfl rfl) ?_
              refine wla rfl rfl (q_eq8 rfl rfl (cst8 (0 : UInt8) rfl)) ?_
              refine wl_nil ?_
              refine W_th ?_
              refine W_cond _ rfl rfl (fun hb18 => ?_) (fun hb18 => ?_)
              · replace H14 := (if_pos (of_decide_eq_true hb18)).symm.trans H14
                refine W_seq ?_
                refine W_reg (by kernel_rfl) ?_
                refine wla rfl rfl (q_move (v := v12) rfl s7_15) ?_
                refine wla rfl rfl (q_move (v := (i64 a0t)) rfl s0_15) ?_
                refine wla rfl rfl (q_move (v := p1) rfl s1_15) ?_
                refine wla rfl rfl (q_move (v := p2) rfl s2_15) ?_
                obtain ⟨r19, hr19, H14⟩ := Option.bind_eq_some_iff.1 H14
                refine wls rfl rfl (stp_call (vs := [v12, (i64 a0t), p1, p2]) Try.func34 rfl rfl rfl (ar4 rfl rfl rfl rfl) (syndrome_Correct_calls r12 a0t a1xs a2ys v12 p1 p2 r19 _ (i0_15.lift (Lift.sub (fun _ _ => trivial))) (hp1.lift (Lift.ext hE15 _)) (hp2.lift (Lift.ext hE15 _)) hr19) ?_)
                rintro _ w19 ⟨v19_0, v19_1, rfl, x19, n19_0, o19_0, n19_1, o19_1⟩
                refine ⟨_, rfl, ?_⟩
                have i19_0 : By w19 [] v19_0 r19.1 := OwK.slk (Sc.stab _) _ (OwK.scal o19_0 (v19_0 :: [])) (fun k hk => (Old.nil _) k (n19_0 k hk)) (fun _ h => h.2)
                have i19_1 : In w19 [] v19_1 r19.2.1 := OwK.slk (Sc.stab _) _ (OwK.scal o19_1 (v19_1 :: [])) (fun k hk => (Old.nil _) k (n19_1 k hk)) (fun _ h => h.2)
                replace i0_15 := i0_15.lift (Lift.ext x19 _)
                have e20 := hE15.trans x19
                refine wla rfl rfl (q_move (v := (.tuple #[v19_0, v19_1, (i64 r19.2.2)])) rfl rfl) ?_
                refine wla rfl rfl (q_extract rfl rfl rfl) ?_
                refine wla rfl rfl (q_extract rfl rfl rfl) ?_
                refine wla rfl rfl (q_extract rfl rfl rfl) ?_
                refine wla rfl rfl (q_assign (v := v19_0) rfl rfl) ?_
                refine wla rfl rfl (q_assign (v := v19_1) rfl rfl) ?_
                refine wla rfl rfl (q_assign (v := (i64 r19.2.2)) rfl rfl) ?_
                refine wl_nil ?_
                refine W_th ?_
                refine W_seq ?_
                refine W_reg (by kernel_rfl) ?_
                refine wla rfl rfl (q_move (v := (i64 r19.2.2)) rfl rfl) ?_
                refine wla rfl rfl (q_eqI rfl rfl rfl) ?_
                refine wlb rfl rfl (q_move (v := (.bool ((decide (r19.2.2 = 2))))) rfl rfl) (fun hb21 => ?_) (fun hb21 => ?_)
                · replace H14 := (if_pos (of_decide_eq_true hb21)).symm.trans H14
                  refine wlk rfl rfl ?_
                  refine wlk rfl rfl ?_
                  refine wlk rfl rfl ?_
                  refine wlk rfl rfl ?_
                  refine wlk rfl rfl ?_
                  refine wlk rfl rfl ?_
                  refine wlk rfl rfl ?_
                  refine wlk rfl rfl ?_
                  refine wlk rfl rfl ?_
                  refine wla rfl rfl (q_pick_t (v := (.bool true)) rfl rfl rfl) ?_
                  refine wla rfl rfl (q_assign (v := (.bool true)) rfl rfl) ?_
                  refine wl_nil ?_
                  refine W_th ?_
                  refine W_ret ?_
                  refine bk_r ?_
                  refine th_r ?_
                  obtain rfl := Option.some.inj H14
                  obtain rfl := hr14 _ rfl
                  simp only [Sum.elim_inr] at H
                  refine th_r ?_
                  refine bk_r ?_
                  refine th_r ?_
                  refine th_r ?_
                  obtain rfl := Option.some.inj H
                  refine rt1 (.bool true) rfl rfl rfl s146_15 ?_
                  exact ⟨rfl, e20⟩
                · replace H14 := (if_neg (of_decide_eq_false hb21)).symm.trans H14
                  refine wla rfl rfl (q_move (v := p1) rfl s1_15) ?_
                  refine wla rfl rfl (q_len rfl T22.sl rfl (hp1.lift (Lift.ext e20 _))) ?_
                  refine wla rfl rfl (q_move (v := p2) rfl s2_15) ?_
                  refine wla rfl rfl (q_len rfl T22.sl rfl (hp2.lift (Lift.ext e20 _))) ?_
                  refine wla rfl rfl (q_neI rfl rfl rfl) ?_
                  refine wlb rfl rfl (q_move (v := (.bool ((!decide ((a1xs.length : Int) = (a2ys.length : Int)))))) rfl rfl) (fun hb22 => ?_) (fun hb22 => ?_)
                  · replace H14 := (if_neg (ndec_t hb22)).symm.trans H14
                    refine wla rfl rfl (q_move (v := (i64 r19.2.2)) rfl rfl) ?_
                    refine wla rfl rfl (q_eqI rfl rfl rfl) ?_
                    refine wla rfl rfl (q_pick_t (v := (.bool ((decide (r19.2.2 = 1))))) rfl rfl rfl) ?_
                    refine wla rfl rfl (q_pick_f (v := (.bool ((decide (r19.2.2 = 1))))) rfl rfl rfl) ?_
                    refine wla rfl rfl (q_assign (v := (.bool ((decide (r19.2.2 = 1))))) rfl rfl) ?_
                    refine wl_nil ?_
                    refine W_th ?_
                    refine W_ret ?_
                    refine bk_r ?_
                    refine th_r ?_
                    obtain rfl := Option.some.inj H14
                    obtain rfl := hr14 _ rfl
                    simp only [Sum.elim_inr] at H
                    refine th_r ?_
                    refine bk_r ?_
                    refine th_r ?_
                    refine th_r ?_
                    obtain rfl := Option.some.inj H
                    refine rt1 (.bool ((decide (r19.2.2 = 1)))) rfl rfl rfl s146_15 ?_
                    exact ⟨rfl, e20⟩
                  · replace H14 := (if_pos (ndec_f hb22)).symm.trans H14
                    refine wlk rfl rfl ?_
                    refine wlk rfl rfl ?_
                    refine wla rfl rfl (q_pick_f (v := (.bool false)) rfl rfl rfl) ?_
                    refine wla rfl rfl (q_pick_f (v := (.bool false)) rfl rfl rfl) ?_
                    refine wla rfl rfl (q_assign (v := (.bool false)) rfl rfl) ?_
                    refine wl_nil ?_
                    refine W_th ?_
                    refine W_ret ?_
                    refine bk_r ?_
                    refine th_r ?_
                    obtain rfl := Option.some.inj H14
                    obtain rfl := hr14 _ rfl
                    simp only [Sum.elim_inr] at H
                    refine th_r ?_
                    refine bk_r ?_
                    refine th_r ?_
                    refine th_r ?_
                    obtain rfl := Option.some.inj H
                    refine rt1 (.bool false) rfl rfl rfl s146_15 ?_
                    exact ⟨rfl, e20⟩
              · replace H14 := (if_neg (of_decide_eq_false hb18)).symm.trans H14
                refine W_skip ?_
                refine bk_n ?_
                refine W_th ?_
                refine W_reg (by kernel_rfl) ?_
                refine wla rfl rfl (q_addI rfl s38_15 rfl) ?_
                refine wla rfl rfl (q_move (v := (i64 ((wI (s14 + 1))))) rfl rfl) ?_
                refine wl_nil ?_
                obtain rfl := Option.some.inj H14
                exact ⟨_, rfl, s0_15, s1_15, s2_15, s7_15, s36_15, s37_15, rfl, s146_15, hE15, i0_15⟩
            · replace H14 := (if_neg (of_decide_eq_false hb16)).symm.trans H14
              refine W_exit ?_
              refine th_x ?_
              obtain rfl := Option.some.inj H14
              obtain rfl := hr14 _ rfl
              refine th_x ?_
              refine bk_x ?_
              exact ⟨_, rfl, s0_15, s1_15, s2_15, s7_15, s146_15, hE15, i0_15⟩
        · rintro _ w24 ⟨y14, rfl, s0_24, s1_24, s2_24, s7_24, s146_24, hE24, i0_24⟩
          simp only [Sum.elim_inl] at H
          refine W_th ?_
          refine W_seq ?_
          refine W_reg (by kernel_rfl) ?_
          refine wla rfl rfl (q_move (v := v12) rfl s7_24) ?_
          refine wla rfl rfl (q_move (v := (i64 a0t)) rfl s0_24) ?_
          refine wla rfl rfl (q_move (v := p1) rfl s1_24) ?_
          refine wla rfl rfl (q_move (v := p2) rfl s2_24) ?_
          obtain ⟨r25, hr25, H⟩ := Option.bind_eq_some_iff.1 H
          refine wls rfl rfl (stp_call (vs := [v12, (i64 a0t), p1, p2]) Try.func34 rfl rfl rfl (ar4 rfl rfl rfl rfl) (syndrome_Correct_calls r12 a0t a1xs a2ys v12 p1 p2 r25 _ (i0_24.lift (Lift.sub (fun _ _ => trivial))) (hp1.lift (Lift.ext hE24 _)) (hp2.lift (Lift.ext hE24 _)) hr25) ?_)
          rintro _ w25 ⟨v25_0, v25_1, rfl, x25, n25_0, o25_0, n25_1, o25_1⟩
          refine ⟨_, rfl, ?_⟩
          have i25_0 : By w25 [] v25_0 r25.1 := OwK.slk (Sc.stab _) _ (OwK.scal o25_0 (v25_0 :: [])) (fun k hk => (Old.nil _) k (n25_0 k hk)) (fun _ h => h.2)
          have i25_1 : In w25 [] v25_1 r25.2.1 := OwK.slk (Sc.stab _) _ (OwK.scal o25_1 (v25_1 :: [])) (fun k hk => (Old.nil _) k (n25_1 k hk)) (fun _ h => h.2)
          replace i0_24 := i0_24.lift (Lift.ext x25 _)
          have e26 := hE24.trans x25
          refine wla rfl rfl (q_move (v := (.tuple #[v25_0, v25_1, (i64 r25.2.2)])) rfl rfl) ?_
          refine wla rfl rfl (q_extract rfl rfl rfl) ?_
          refine wla rfl rfl (q_extract rfl rfl rfl) ?_
          refine wla rfl rfl (q_extract rfl rfl rfl) ?_
          refine wla rfl rfl (q_assign (v := v25_0) rfl rfl) ?_
          refine wla rfl rfl (q_assign (v := v25_1) rfl rfl) ?_
          refine wla rfl rfl (q_assign (v := (i64 r25.2.2)) rfl rfl) ?_
          refine wl_nil ?_
          refine W_th ?_
          refine W_seq ?_
          refine W_reg (by kernel_rfl) ?_
          refine wla rfl rfl (q_move (v := v12) rfl s7_24) ?_
          refine wla rfl rfl (q_move (v := (i64 a0t)) rfl s0_24) ?_
          refine wla rfl rfl (q_move (v := p1) rfl s1_24) ?_
          refine wla rfl rfl (q_move (v := p2) rfl s2_24) ?_
          refine wla rfl rfl (q_move (v := p1) rfl s1_24) ?_
          refine wla rfl rfl (q_len rfl T22.sl rfl (hp1.lift (Lift.ext e26 _))) ?_
          obtain ⟨r27, hr27, H⟩ := Option.bind_eq_some_iff.1 H
          refine wls rfl rfl (stp_call (vs := [v12, (i64 a0t), p1, p2, (i64 ((a1xs.length : Int)))]) Try.func11 rfl rfl rfl (ar5 rfl rfl rfl rfl rfl) (mend_Column_calls r12 a0t a1xs a2ys (a1xs.length : Int) v12 p1 p2 r27 _ (i0_24.lift (Lift.sub (fun _ _ => trivial))) (hp1.lift (Lift.ext e26 _)) (hp2.lift (Lift.ext e26 _)) hr27) ?_)
          rintro _ w27 ⟨v27_0, rfl, x27, n27_0, o27_0⟩
          refine ⟨_, rfl, ?_⟩
          have i27_0 : By w27 [] v27_0 r27.1 := SlK.avail o27_0 _ (fun k hk => (Old.nil _) k (n27_0 k hk))
          replace i0_24 := i0_24.lift (Lift.ext x27 _)
          replace i25_0 := i25_0.lift (Lift.ext x27 _)
          replace i25_1 := i25_1.lift (Lift.ext x27 _)
          have e28 := e26.trans x27
          refine wla rfl rfl (q_move (v := (.tuple #[v27_0, (i64 r27.2)])) rfl rfl) ?_
          refine wla rfl rfl (q_extract rfl rfl rfl) ?_
          refine wla rfl rfl (q_extract rfl rfl rfl) ?_
          refine wla rfl rfl (q_assign (v := v27_0) rfl rfl) ?_
          refine wla rfl rfl (q_assign (v := (i64 r27.2)) rfl rfl) ?_
          refine wl_nil ?_
          refine W_th ?_
          refine W_seq ?_
          refine W_seq ?_
          refine W_reg (by kernel_rfl) ?_
          refine wla rfl rfl (q_move (v := (i64 r25.2.2)) rfl rfl) ?_
          refine wla rfl rfl (q_move (v := (i64 r27.2)) rfl rfl) ?_
          refine wla rfl rfl (q_neI rfl rfl rfl) ?_
          refine wl_nil ?_
          refine W_th ?_
          refine W_cond _ rfl rfl (fun hb29 => ?_) (fun hb29 => ?_)
          · replace H := (if_neg (ndec_t hb29)).symm.trans H
            refine W_seq ?_
            refine W_reg (by kernel_rfl) ?_
            refine wla rfl rfl (q_assign (v := (.bool false)) rfl rfl) ?_
            refine wl_nil ?_
            refine W_th ?_
            refine W_ret ?_
            refine th_r ?_
            obtain rfl := Option.some.inj H
            refine rt1 (.bool false) rfl rfl rfl s146_24 ?_
            exact ⟨rfl, e28⟩
          · replace H := (if_pos (ndec_f hb29)).symm.trans H
            refine W_skip ?_
            refine W_th ?_
            refine W_seq ?_
            refine W_seq ?_
            refine W_reg (by kernel_rfl) ?_
            refine wla rfl rfl (q_move (v := (i64 r25.2.2)) rfl rfl) ?_
            refine wla rfl rfl (q_neI rfl rfl rfl) ?_
            refine wl_nil ?_
            refine W_th ?_
            refine W_cond _ rfl rfl (fun hb30 => ?_) (fun hb30 => ?_)
            · replace H := (if_neg (ndec_t hb30)).symm.trans H
              refine W_seq ?_
              refine W_reg (by kernel_rfl) ?_
              refine wla rfl rfl (q_move (v := v25_0) rfl rfl) ?_
              refine wla rfl rfl (q_len rfl T22.sl rfl i25_0) ?_
              refine wla rfl rfl (q_move (v := v25_1) rfl rfl) ?_
              refine wla rfl rfl (q_len rfl T47.sl rfl i25_1) ?_
              refine wla rfl rfl (q_addI rfl rfl rfl) ?_
              refine wla rfl rfl (q_eqI rfl rfl rfl) ?_
              refine wla rfl rfl (q_assign (v := (.bool ((decide ((wI ((r25.1.length : Int) + (r25.2.1.length : Int))) = 0))))) rfl rfl) ?_
              refine wl_nil ?_
              refine W_th ?_
              refine W_ret ?_
              refine th_r ?_
              obtain rfl := Option.some.inj H
              refine rt1 (.bool ((decide ((wI ((r25.1.length : Int) + (r25.2.1.length : Int))) = 0)))) rfl rfl rfl s146_24 ?_
              exact ⟨rfl, e28⟩
            · replace H := (if_pos (ndec_f hb30)).symm.trans H
              refine W_skip ?_
              refine W_th ?_
              refine W_seq ?_
              refine W_reg (by kernel_rfl) ?_
              refine wla rfl rfl (q_assign (v := (i64 0)) rfl rfl) ?_
              refine wl_nil ?_
              refine W_th ?_
              refine W_seq ?_
              refine W_seq ?_
              refine W_reg (by kernel_rfl) ?_
              refine wla rfl rfl (q_move (v := p1) rfl s1_24) ?_
              refine wla rfl rfl (q_len rfl T22.sl rfl (hp1.lift (Lift.ext e28 _))) ?_
              refine wla rfl rfl (q_move (v := (i64 0)) rfl rfl) ?_
              refine wl_nil ?_
              refine W_th ?_
              obtain ⟨x31, G31, H⟩ := Option.bind_eq_some_iff.1 H
              refine W_mid (fun f w => ∃ y31, x31 = .inl y31 ∧ f 2 = p2 ∧ f 13 = v25_0 ∧ f 14 = v25_1 ∧ f 18 = (i64 y31) ∧ f 146 = undef ∧ Ext w0 w ∧ By w [] v25_0 r25.1 ∧ In w [] v25_1 r25.2.1) ?_ ?_
              · refine W_block ?_
                refine W_loop (fun s31 f w => f 2 = p2 ∧ f 7 = v12 ∧ f 13 = v25_0 ∧ f 14 = v25_1 ∧ f 16 = v27_0 ∧ f 18 = (i64 s31.1) ∧ f 97 = p1 ∧ f 98 = (i64 ((a1xs.length : Int))) ∧ f 99 = (i64 s31.2) ∧ f 146 = undef ∧ Ext w0 w ∧ Fd w [] v12 r12 ∧ By w [] v25_0 r25.1 ∧ In w [] v25_1 r25.2.1 ∧ By w [] v27_0 r27.1) G31 ?_ ?_
                · exact ⟨s2_24, s7_24, rfl, rfl, rfl, rfl, rfl, rfl, rfl, s146_24, e28, i0_24, i25_0, i25_1, i27_0⟩
                · rintro s31 _ _ w32 ⟨s2_32, s7_32, s13_32, s14_32, s16_32, s18_32, s97_32, s98_32, s99_32, s146_32, hE32, i0_32, i1_32, i2_32, i3_32⟩ H31 hr31
                  refine W_seq ?_
                  refine W_reg (by kernel_rfl) ?_
                  refine wla rfl rfl (q_ltI rfl s99_32 s98_32) ?_
                  refine wl_nil ?_
                  refine W_th ?_
                  refine W_seq ?_
                  refine W_cond _ rfl rfl (fun hb33 => ?_) (fun hb33 => ?_)
                  · replace H31 := (if_pos (of_decide_eq_true hb33)).symm.trans H31
                    refine W_skip ?_
                    refine W_th ?_
                    refine W_seq ?_
                    refine W_block ?_
                    refine W_seq ?_
                    refine W_reg (by kernel_rfl) ?_
                    refine wla rfl rfl (q_move (v := (i64 s31.2)) rfl s99_32) ?_
                    obtain ⟨c34, hc34, H31⟩ := Option.bind_eq_some_iff.1 H31
                    refine wla rfl rfl (q_adr rfl T22 s97_32 s99_32 (hp1.lift (Lift.ext hE32 _)) hc34) ?_
                    refine wlq rfl rfl (q_loadS rfl T22 rfl (hp1.lift (Lift.ext hE32 _)) hc34) ?_
                    refine wla rfl rfl (q_assign (v := (i64 s31.2)) rfl rfl) ?_
                    refine wla rfl rfl (q_assign (v := (u8 c34)) rfl rfl) ?_
                    refine wl_nil ?_
                    refine W_th ?_
                    refine W_seq ?_
                    refine W_reg (by kernel_rfl) ?_
                    refine wla rfl rfl (q_move (v := v12) rfl s7_32) ?_
                    refine wla rfl rfl (q_move (v := v27_0) rfl s16_32) ?_
                    refine wla rfl rfl (q_move (v := (u8 c34)) rfl rfl) ?_
                    obtain ⟨r35, hr35, H31⟩ := Option.bind_eq_some_iff.1 H31
                    refine wls rfl rfl (stp_call (vs := [v12, v27_0, (u8 c34)]) Try.func17 rfl rfl rfl (ar3 rfl rfl rfl) (poly_Eval_calls r12 r27.1 c34 v12 v27_0 r35 _ (i0_32.lift (Lift.sub (fun _ _ => trivial))) (i3_32.lift (Lift.sub (fun _ _ => trivial))) hr35) ?_)
                    rintro _ w35 ⟨rfl, x35⟩
                    refine ⟨_, rfl, ?_⟩
                    replace i0_32 := i0_32.lift (Lift.ext x35 _)
                    replace i1_32 := i1_32.lift (Lift.ext x35 _)
                    replace i2_32 := i2_32.lift (Lift.ext x35 _)
                    replace i3_32 := i3_32.lift (Lift.ext x35 _)
                    have e36 := hE32.trans x35
                    refine wla rfl rfl (q_assign (v := (u8 r35)) rfl rfl) ?_
                    refine wl_nil ?_
                    refine W_th ?_
                    refine W_seq ?_
                    refine W_seq ?_
                    refine W_reg (by kernel_rfl) ?_
                    refine wla rfl rfl (q_move (v := v25_0) rfl s13_32) ?_
                    refine wla rfl rfl (q_move (v := (i64 s31.2)) rfl rfl) ?_
                    obtain ⟨c37, hc37, H31⟩ := Option.bind_eq_some_iff.1 H31
                    refine wla rfl rfl (q_adr rfl T22 rfl rfl i1_32 hc37) ?_
                    refine wlq rfl rfl (q_loadS rfl T22 rfl i1_32 hc37) ?_
                    refine wla rfl rfl (q_move (v := (u8 r35)) rfl rfl) ?_
                    refine wla rfl rfl (q_ne8 rfl rfl rfl) ?_
                    refine wl_nil ?_
                    refine W_th ?_
                    refine W_cond _ rfl rfl (fun hb38 => ?_) (fun hb38 => ?_)
                    · replace H31 := (if_neg (ndec_t hb38)).symm.trans H31
                      refine W_seq ?_
                      refine W_reg (by kernel_rfl) ?_
                      refine wla rfl rfl (q_assign (v := (.bool false)) rfl rfl) ?_
                      refine wl_nil ?_
                      refine W_th ?_
                      refine W_ret ?_
                      refine th_r ?_
                      refine bk_r ?_
                      refine th_r ?_
                      obtain rfl := Option.some.inj H31
                      obtain rfl := hr31 _ rfl
                      simp only [Sum.elim_inr] at H
                      refine th_r ?_
                      refine bk_r ?_
                      refine th_r ?_
                      refine th_r ?_
                      obtain rfl := Option.some.inj H
                      refine rt1 (.bool false) rfl rfl rfl s146_32 ?_
                      exact ⟨rfl, e36⟩
                    · replace H31 := (if_pos (ndec_f hb38)).symm.trans H31
                      refine W_skip ?_
                      refine W_th ?_
                      refine W_seq ?_
                      refine W_reg (by kernel_rfl) ?_
                      refine wla rfl rfl (q_move (v := (u8 r35)) rfl rfl) ?_
                      refine wla rfl rfl (q_move (v := p2) rfl s2_32) ?_
                      refine wla rfl rfl (q_move (v := (i64 s31.2)) rfl rfl) ?_
                      obtain ⟨c39, hc39, H31⟩ := Option.bind_eq_some_iff.1 H31
                      refine wla rfl rfl (q_adr rfl T22 rfl rfl (hp2.lift (Lift.ext e36 _)) hc39) ?_
                      refine wlq rfl rfl (q_loadS rfl T22 rfl (hp2.lift (Lift.ext e36 _)) hc39) ?_
                      refine wla rfl rfl (q_ne8 rfl rfl rfl) ?_
                      refine wl_nil ?_
                      refine W_th ?_
                      refine W_cond _ rfl rfl (fun hb40 => ?_) (fun hb40 => ?_)
                      · replace H31 := (if_neg (ndec_t hb40)).symm.trans H31
                        refine W_seq ?_
                        refine W_seq ?_
                        refine W_reg (by kernel_rfl) ?_
                        refine wla rfl rfl (q_move (v := (i64 s31.1)) rfl s18_32) ?_
                        refine wla rfl rfl (q_move (v := v25_1) rfl s14_32) ?_
                        refine wla rfl rfl (q_len rfl T47.sl rfl i2_32) ?_
                        refine wla rfl rfl (q_geI rfl rfl rfl) ?_
                        refine wlb rfl rfl (q_move (v := (.bool ((decide ((r25.2.1.length : Int) ≤ s31.1))))) rfl rfl) (fun hb41 => ?_) (fun hb41 => ?_)
                        · replace H31 := (if_pos (of_decide_eq_true hb41)).symm.trans H31
                          refine wlk rfl rfl ?_
                          refine wlk rfl rfl ?_
                          refine wlk rfl rfl ?_
                          refine wlk rfl rfl ?_
                          refine wlk rfl rfl ?_
                          refine wlk rfl rfl ?_
                          refine wla rfl rfl (q_pick_t (v := (.bool true)) rfl rfl rfl) ?_
                          refine wl_nil ?_
                          refine W_th ?_
                          refine W_cond true rfl rfl (fun _ => ?_) (fun hb => by cases hb)
                          refine W_seq ?_
                          refine W_reg (by kernel_rfl) ?_
                          refine wla rfl rfl (q_assign (v := (.bool false)) rfl rfl) ?_
                          refine wl_nil ?_
                          refine W_th ?_
                          refine W_ret ?_
                          refine th_r ?_
                          refine bk_r ?_
                          refine th_r ?_
                          obtain rfl := Option.some.inj H31
                          obtain rfl := hr31 _ rfl
                          simp only [Sum.elim_inr] at H
                          refine th_r ?_
                          refine bk_r ?_
                          refine th_r ?_
                          refine th_r ?_
                          obtain rfl := Option.some.inj H
                          refine rt1 (.bool false) rfl rfl rfl s146_32 ?_
                          exact ⟨rfl, e36⟩
                        · replace H31 := (if_neg (of_decide_eq_false hb41)).symm.trans H31
                          refine wla rfl rfl (q_move (v := v25_1) rfl s14_32) ?_
                          refine wla rfl rfl (q_move (v := (i64 s31.1)) rfl s18_32) ?_
                          obtain ⟨c42, hc42, H31⟩ := Option.bind_eq_some_iff.1 H31
                          refine wla rfl rfl (q_adr rfl T47 rfl rfl i2_32 hc42) ?_
                          refine wlq rfl rfl (q_loadS rfl T47 rfl i2_32 hc42) ?_
                          refine wla rfl rfl (q_move (v := (i64 s31.2)) rfl rfl) ?_
                          refine wla rfl rfl (q_neI rfl rfl rfl) ?_
                          refine wla rfl rfl (q_pick_f (v := (.bool ((!decide (c42 = s31.2))))) rfl rfl rfl) ?_
                          refine wl_nil ?_
                          refine W_th ?_
                          refine W_cond _ rfl rfl (fun hb43 => ?_) (fun hb43 => ?_)
                          · replace H31 := (if_neg (ndec_t hb43)).symm.trans H31
                            refine W_seq ?_
                            refine W_reg (by kernel_rfl) ?_
                            refine wla rfl rfl (q_assign (v := (.bool false)) rfl rfl) ?_
                            refine wl_nil ?_
                            refine W_th ?_
                            refine W_ret ?_
                            refine th_r ?_
                            refine bk_r ?_
                            refine th_r ?_
                            obtain rfl := Option.some.inj H31
                            obtain rfl := hr31 _ rfl
                            simp only [Sum.elim_inr] at H
                            refine th_r ?_
                            refine bk_r ?_
                            refine th_r ?_
                            refine th_r ?_
                            obtain rfl := Option.some.inj H
                            refine rt1 (.bool false) rfl rfl rfl s146_32 ?_
                            exact ⟨rfl, e36⟩
                          · replace H31 := (if_pos (ndec_f hb43)).symm.trans H31
                            refine W_skip ?_
                            refine W_th ?_
                            refine W_reg (by kernel_rfl) ?_
                            refine wla rfl rfl (q_move (v := (i64 s31.1)) rfl s18_32) ?_
                            refine wla rfl rfl (q_addI rfl rfl rfl) ?_
                            refine wla rfl rfl (q_assign (v := (i64 ((wI (s31.1 + 1))))) rfl rfl) ?_
                            refine wl_nil ?_
                            refine bk_n ?_
                            refine W_th ?_
                            refine W_reg (by kernel_rfl) ?_
                            refine wla rfl rfl (q_addI rfl s99_32 rfl) ?_
                            refine wla rfl rfl (q_move (v := (i64 ((wI (s31.2 + 1))))) rfl rfl) ?_
                            refine wl_nil ?_
                            obtain rfl := Option.some.inj H31
                            exact ⟨_, rfl, s2_32, s7_32, s13_32, s14_32, s16_32, rfl, s97_32, s98_32, rfl, s146_32, e36, i0_32, i1_32, i2_32, i3_32⟩
                      · replace H31 := (if_pos (ndec_f hb40)).symm.trans H31
                        refine W_skip ?_
                        refine bk_n ?_
                        refine W_th ?_
                        refine W_reg (by kernel_rfl) ?_
                        refine wla rfl rfl (q_addI rfl s99_32 rfl) ?_
                        refine wla rfl rfl (q_move (v := (i64 ((wI (s31.2 + 1))))) rfl rfl) ?_
                        refine wl_nil ?_
                        obtain rfl := Option.some.inj H31
                        exact ⟨_, rfl, s2_32, s7_32, s13_32, s14_32, s16_32, s18_32, s97_32, s98_32, rfl, s146_32, e36, i0_32, i1_32, i2_32, i3_32⟩
                  · replace H31 := (if_neg (of_decide_eq_false hb33)).symm.trans H31
                    refine W_exit ?_
                    refine th_x ?_
                    obtain rfl := Option.some.inj H31
                    obtain rfl := hr31 _ rfl
                    refine th_x ?_
                    refine bk_x ?_
                    exact ⟨_, rfl, s2_32, s13_32, s14_32, s18_32, s146_32, hE32, i1_32, i2_32⟩
              · rintro _ w45 ⟨y31, rfl, s2_45, s13_45, s14_45, s18_45, s146_45, hE45, i0_45, i1_45⟩
                simp only [Sum.elim_inl] at H
                refine W_th ?_
                refine W_seq ?_
                refine W_reg (by kernel_rfl) ?_
                refine wla rfl rfl (q_move (v := (i64 y31)) rfl s18_45) ?_
                refine wla rfl rfl (q_move (v := v25_1) rfl s14_45) ?_
                refine wla rfl rfl (q_len rfl T47.sl rfl i1_45) ?_
                refine wla rfl rfl (q_eqI rfl rfl rfl) ?_
                refine wlb rfl rfl (q_move (v := (.bool ((decide (y31 = (r25.2.1.length : Int)))))) rfl rfl) (fun hb46 => ?_) (fun hb46 => ?_)
                · replace H := (if_pos (of_decide_eq_true hb46)).symm.trans H
                  refine wla rfl rfl (q_move (v := v25_0) rfl s13_45) ?_
                  refine wla rfl rfl (q_len rfl T22.sl rfl i0_45) ?_
                  refine wla rfl rfl (q_move (v := p2) rfl s2_45) ?_
                  refine wla rfl rfl (q_len rfl T22.sl rfl (hp2.lift (Lift.ext hE45 _))) ?_
                  refine wla rfl rfl (q_eqI rfl rfl rfl) ?_
                  refine wla rfl rfl (q_pick_t (v := (.bool ((decide ((r25.1.length : Int) = (a2ys.length : Int)))))) rfl rfl rfl) ?_
                  refine wla rfl rfl (q_assign (v := (.bool ((decide ((r25.1.length : Int) = (a2ys.length : Int)))))) rfl rfl) ?_
                  refine wl_nil ?_
                  refine W_th ?_
                  refine W_ret ?_
                  obtain rfl := Option.some.inj H
                  refine rt1 (.bool ((decide ((r25.1.length : Int) = (a2ys.length : Int))))) rfl rfl rfl s146_45 ?_
                  exact ⟨rfl, hE45⟩
                · replace H := (if_neg (of_decide_eq_false hb46)).symm.trans H
                  refine wlk rfl rfl ?_
                  refine wlk rfl rfl ?_
                  refine wlk rfl rfl ?_
                  refine wlk rfl rfl ?_
                  refine wlk rfl rfl ?_
                  refine wla rfl rfl (q_pick_f (v := (.bool false)) rfl rfl rfl) ?_
                  refine wla rfl rfl (q_assign (v := (.bool false)) rfl rfl) ?_
                  refine wl_nil ?_
                  refine W_th ?_
                  refine W_ret ?_
                  obtain rfl := Option.some.inj H
                  refine rt1 (.bool false) rfl rfl rfl s146_45 ?_
                  exact ⟨rfl, hE45⟩

end Gk

/- Printed by gen.py: for each Go function a pure function, and that the Go code comes to it. No condition beside the equation that says what the pure function gives. -/


set_option linter.unusedVariables false
set_option linter.unusedSimpArgs false
namespace Gk
open Go Go.Proofs

/-! largesse/largesseref30.Weight -/
noncomputable def ref30_Weight (a0xs : List UInt8) (a1i : Int) : Option UInt8 :=
((iterC (fun s1 : UInt8 × Int =>
(if s1.2 < (a0xs.length : Int) then
(if s1.2 = a1i then some (.inl (s1.1, (wI (s1.2 + 1))))
else
((idx a0xs a1i).bind fun c7 =>
((idx a0xs s1.2).bind fun c8 =>
((ref02_Mul s1.1 (c7 ^^^ c8)).bind fun r9 => some (.inl (r9, (wI (s1.2 + 1))))))))
else some (.inr s1.1))) ((1 : UInt8), 0)).bind fun x1 =>
((ref02_Inv x1).bind fun r13 => some r13))
set_option maxRecDepth 100000 in
set_option maxHeartbeats 8000000 in
theorem ref30_Weight_calls (a0xs : List UInt8) (a1i : Int) (p0 : Value) (r : UInt8) (w0 : World) (hp0 : By w0 [] p0 a0xs) (H : ref30_Weight a0xs a1i = some r) :
    Calls Try.prog 57 [p0, (i64 a1i)].toArray w0 (fun e w' => e = .returned (u8 r) ∧ Ext w0 w') := by
  have hE : Ext w0 w0 := Ext.refl w0
  unfold ref30_Weight at H
  refine calls_W (n := 29) Try.func57 rfl rfl rfl ?_
  refine W_seq ?_
  refine W_reg (by kernel_rfl) ?_
  refine wla rfl rfl (q_assign (v := (u8 0)) rfl (cst8 (0 : UInt8) rfl)) ?_
  refine wl_nil ?_
  refine W_th ?_
  refine W_seq ?_
  refine W_reg (by kernel_rfl) ?_
  refine wla rfl rfl (q_assign (v := (u8 1)) rfl (cst8 (1 : UInt8) rfl)) ?_
  refine wl_nil ?_
  refine W_th ?_
  refine W_seq ?_
  refine W_seq ?_
  refine W_reg (by kernel_rfl) ?_
  refine wla rfl rfl (q_move (v := p0) rfl rfl) ?_
  refine wla rfl rfl (q_len rfl T22.sl rfl (hp0.lift (Lift.ext hE _))) ?_
  refine wla rfl rfl (q_move (v := (i64 0)) rfl rfl) ?_
  refine wl_nil ?_
  refine W_th ?_
  obtain ⟨x1, G1, H⟩ := Option.bind_eq_some_iff.1 H
  refine W_mid (fun f w => f 5 = (u8 x1) ∧ f 29 = undef ∧ Ext w0 w) ?_ ?_
  · refine W_block ?_
    refine W_loop (fun s1 f w => f 0 = p0 ∧ f 1 = (i64 a1i) ∧ f 5 = (u8 s1.1) ∧ f 8 = (i64 ((a0xs.length : Int))) ∧ f 9 = (i64 s1.2) ∧ f 29 = undef ∧ Ext w0 w) G1 ?_ ?_
    · exact ⟨rfl, rfl, rfl, rfl, rfl, rfl, hE⟩
    · rintro s1 _ _ w2 ⟨s0_2, s1_2, s5_2, s8_2, s9_2, s29_2, hE2⟩ H1 hr1
      refine W_seq ?_
      refine W_reg (by kernel_rfl) ?_
      refine wla rfl rfl (q_ltI rfl s9_2 s8_2) ?_
      refine wl_nil ?_
      refine W_th ?_
      refine W_seq ?_
      refine W_cond _ rfl rfl (fun hb3 => ?_) (fun hb3 => ?_)
      · replace H1 := (if_pos (of_decide_eq_true hb3)).symm.trans H1
        refine W_skip ?_
        refine W_th ?_
        refine W_seq ?_
        refine W_block ?_
        refine W_seq ?_
        refine W_reg (by kernel_rfl) ?_
        refine wla rfl rfl (q_move (v := (i64 s1.2)) rfl s9_2) ?_
        refine wla rfl rfl (q_assign (v := (i64 s1.2)) rfl rfl) ?_
        refine wl_nil ?_
        refine W_th ?_
        refine W_seq ?_
        refine W_reg (by kernel_rfl) ?_
        refine wla rfl rfl (q_move (v := (i64 s1.2)) rfl rfl) ?_
        refine wla rfl rfl (q_move (v := (i64 a1i)) rfl s1_2) ?_
        refine wla rfl rfl (q_neI rfl rfl rfl) ?_
        refine wl_nil ?_
        refine W_th ?_
        refine W_cond _ rfl rfl (fun hb4 => ?_) (fun hb4 => ?_)
        · replace H1 := (if_neg (ndec_t hb4)).symm.trans H1
          refine W_draw [4, 8] [(0, 0), (1, 0), (2, 0), (3, 0), (4, 1), (5, 0), (6, 0), (7, 0), (8, 1), (9, 0), (10, 2), (11, 0)] mixed (by kernel_rfl) (by kernel_rfl) (by kernel_rfl) (by kernel_rfl) ?_
          have x5 := Ext.drew w2
          have e6 := hE2.trans x5
          refine wsa rfl rfl rfl (q_move (v := (u8 s1.1)) rfl s5_2) ?_
          refine wsa rfl rfl rfl (q_move (v := p0) rfl s0_2) ?_
          refine wsa rfl rfl rfl (q_move (v := (i64 a1i)) rfl s1_2) ?_
          obtain ⟨c7, hc7, H1⟩ := Option.bind_eq_some_iff.1 H1
          refine wsa rfl rfl rfl (q_adr rfl T22 rfl rfl (hp0.lift (Lift.ext e6 _)) hc7) ?_
          refine wsq rfl rfl rfl (q_loadS rfl T22 rfl (hp0.lift (Lift.ext e6 _)) hc7) ?_
          refine wsa rfl rfl rfl (q_move (v := p0) rfl s0_2) ?_
          refine wsa rfl rfl rfl (q_move (v := (i64 s1.2)) rfl rfl) ?_
          obtain ⟨c8, hc8, H1⟩ := Option.bind_eq_some_iff.1 H1
          refine wsa rfl rfl rfl (q_adr rfl T22 rfl rfl (hp0.lift (Lift.ext e6 _)) hc8) ?_
          refine wsq rfl rfl rfl (q_loadS rfl T22 rfl (hp0.lift (Lift.ext e6 _)) hc8) ?_
          refine wsa rfl rfl rfl (q_xor8 rfl rfl rfl) ?_
          obtain ⟨r9, hr9, H1⟩ := Option.bind_eq_some_iff.1 H1
          refine wsc rfl (by kernel_rfl) rfl rfl (stp_call (vs := [(u8 s1.1), (u8 ((c7 ^^^ c8)))]) Try.func48 rfl rfl rfl (ar2 rfl rfl) (ref02_Mul_calls s1.1 (c7 ^^^ c8)  r9 _  hr9) ?_)
          rintro _ w9 ⟨rfl, x9⟩
          refine ⟨_, rfl, ?_⟩
          have e10 := e6.trans x9
          refine wsa rfl rfl rfl (q_assign (v := (u8 r9)) rfl rfl) ?_
          refine ws_nil ?_
          refine bk_n ?_
          refine W_th ?_
          refine W_reg (by kernel_rfl) ?_
          refine wla rfl rfl (q_addI rfl s9_2 rfl) ?_
          refine wla rfl rfl (q_move (v := (i64 ((wI (s1.2 + 1))))) rfl rfl) ?_
          refine wl_nil ?_
          obtain rfl := Option.some.inj H1
          exact ⟨_, rfl, s0_2, s1_2, rfl, s8_2, rfl, s29_2, e10⟩
        · replace H1 := (if_pos (ndec_f hb4)).symm.trans H1
          refine W_skip ?_
          refine bk_n ?_
          refine W_th ?_
          refine W_reg (by kernel_rfl) ?_
          refine wla rfl rfl (q_addI rfl s9_2 rfl) ?_
          refine wla rfl rfl (q_move (v := (i64 ((wI (s1.2 + 1))))) rfl rfl) ?_
          refine wl_nil ?_
          obtain rfl := Option.some.inj H1
          exact ⟨_, rfl, s0_2, s1_2, s5_2, s8_2, rfl, s29_2, hE2⟩
      · replace H1 := (if_neg (of_decide_eq_false hb3)).symm.trans H1
        refine W_exit ?_
        refine th_x ?_
        obtain rfl := Option.some.inj H1
        obtain rfl := hr1 _ rfl
        refine th_x ?_
        refine bk_x ?_
        exact ⟨s5_2, s29_2, hE2⟩
  · rintro _ w12 ⟨s5_12, s29_12, hE12⟩
    refine W_th ?_
    refine W_seq ?_
    refine W_reg (by kernel_rfl) ?_
    refine wla rfl rfl (q_move (v := (u8 x1)) rfl s5_12) ?_
    obtain ⟨r13, hr13, H⟩ := Option.bind_eq_some_iff.1 H
    refine wls rfl rfl (stp_call (vs := [(u8 x1)]) Try.func54 rfl rfl rfl (ar1 rfl) (ref02_Inv_calls x1  r13 _  hr13) ?_)
    rintro _ w13 ⟨rfl, x13⟩
    refine ⟨_, rfl, ?_⟩
    have e14 := hE12.trans x13
    refine wla rfl rfl (q_assign (v := (u8 r13)) rfl rfl) ?_
    refine wl_nil ?_
    refine W_th ?_
    refine W_ret ?_
    obtain rfl := Option.some.inj H
    refine rt1 (u8 r13) rfl rfl rfl s29_12 ?_
    exact ⟨rfl, e14⟩

/-! largesse/largesseref30.Syndromes -/
noncomputable def ref30_Syndromes (a0r : Int) (a1xs : List UInt8) (a2ys : List UInt8) : Option (List UInt8) :=
((iterC (fun s4 : List UInt8 × Int =>
(if s4.2 < a0r then
((iterC (fun s7 : UInt8 × Int =>
(if s7.2 < (a1xs.length : Int) then
((idx a2ys s7.2).bind fun c12 =>
((idx a1xs s7.2).bind fun c13 =>
((ref30_Weight a1xs s7.2).bind fun r14 =>
((ref02_Pow c13 s4.2).bind fun r16 =>
((ref02_Mul c12 r16).bind fun r18 =>
((ref02_Mul r14 r18).bind fun r20 => some (.inl ((s7.1 ^^^ r20), (wI (s7.2 + 1))))))))))
else some (.inr s7.1))) ((0 : UInt8), 0)).bind fun x7 =>
((appL s4.1 (([x7] : List UInt8))).bind fun c26 => some (.inl (c26, (wI (s4.2 + 1))))))
else some (.inr s4.1))) (([] : List UInt8), 0)).bind fun x4 => some x4)
set_option maxRecDepth 100000 in
set_option maxHeartbeats 8000000 in
theorem ref30_Syndromes_calls (a0r : Int) (a1xs : List UInt8) (a2ys : List UInt8) (p1 : Value) (p2 : Value) (r : List UInt8) (w0 : World) (hp1 : By w0 [] p1 a1xs) (hp2 : By w0 [] p2 a2ys) (H : ref30_Syndromes a0r a1xs a2ys = some r) :
    Calls Try.prog 27 [(i64 a0r), p1, p2].toArray w0 (fun e w' => ∃ u0 : Value, e = .returned u0 ∧ Ext w0 w' ∧ Nw w0 u0 ∧ OwK (Sc u8) w' [] 5 u0 r) := by
  have hE : Ext w0 w0 := Ext.refl w0
  unfold ref30_Syndromes at H
  refine calls_W (n := 45) Try.func27 rfl rfl rfl ?_
  refine W_seq ?_
  refine W_reg (by kernel_rfl) ?_
  refine wla rfl rfl (q_assign (v := (.slice none 0 0)) rfl rfl) ?_
  refine wl_nil ?_
  refine W_th ?_
  refine W_seq ?_
  refine W_reg (by kernel_rfl) ?_
  refine wls rfl rfl (stp_lit (L := []) (R := (Sc u8)) [] ([] : List UInt8) rfl T22 rfl (by exact trivial) rfl (litC u8 (oneC_u8) (us := []) (l := ([] : List UInt8)) rfl) rfl (litS u8 (us := []) (l := ([] : List UInt8)) rfl) ?_)
  intro v1 w1 o1 n1 g1 l1
  have x1 := grown_ext g1
  have n3 := Nw.ext hE n1
  have e2 := hE.trans x1
  refine wla rfl rfl (q_assign (v := v1) rfl rfl) ?_
  refine wl_nil ?_
  refine W_th ?_
  refine W_seq ?_
  refine W_seq ?_
  refine W_reg (by kernel_rfl) ?_
  refine wla rfl rfl (q_assign (v := (i64 0)) rfl rfl) ?_
  refine wl_nil ?_
  refine W_th ?_
  obtain ⟨x4, G4, H⟩ := Option.bind_eq_some_iff.1 H
  refine W_mid (fun f w => ∃ v7_32 : Value, f 7 = v7_32 ∧ f 45 = undef ∧ Ext w0 w ∧ OwK (Sc u8) w [v7_32] 5 v7_32 x4 ∧ Nw w0 v7_32) ?_ ?_
  · refine W_block ?_
    refine W_loop (fun s4 f w => ∃ v7_30 : Value, f 0 = (i64 a0r) ∧ f 1 = p1 ∧ f 2 = p2 ∧ f 7 = v7_30 ∧ f 8 = (i64 s4.2) ∧ f 45 = undef ∧ Ext w0 w ∧ OwK (Sc u8) w [v7_30] 5 v7_30 s4.1 ∧ Nw w0 v7_30) G4 ?_ ?_
    · exact ⟨v1, rfl, rfl, rfl, rfl, rfl, rfl, e2, o1, n3⟩
    · rintro s4 _ _ w5 ⟨v7_5, s0_5, s1_5, s2_5, s7_5, s8_5, s45_5, hE5, o0_5, n0_5⟩ H4 hr4
      refine W_seq ?_
      refine W_seq ?_
      refine W_reg (by kernel_rfl) ?_
      refine wla rfl rfl (q_move (v := (i64 s4.2)) rfl s8_5) ?_
      refine wla rfl rfl (q_move (v := (i64 a0r)) rfl s0_5) ?_
      refine wla rfl rfl (q_ltI rfl rfl rfl) ?_
      refine wl_nil ?_
      refine W_th ?_
      refine W_cond _ rfl rfl (fun hb6 => ?_) (fun hb6 => ?_)
      · replace H4 := (if_pos (of_decide_eq_true hb6)).symm.trans H4
        refine W_skip ?_
        refine W_th ?_
        refine W_seq ?_
        refine W_block ?_
        refine W_seq ?_
        refine W_reg (by kernel_rfl) ?_
        refine wla rfl rfl (q_assign (v := (u8 0)) rfl (cst8 (0 : UInt8) rfl)) ?_
        refine wl_nil ?_
        refine W_th ?_
        refine W_seq ?_
        refine W_seq ?_
        refine W_reg (by kernel_rfl) ?_
        refine wla rfl rfl (q_move (v := p1) rfl s1_5) ?_
        refine wla rfl rfl (q_len rfl T22.sl rfl (hp1.lift (Lift.ext hE5 _))) ?_
        refine wla rfl rfl (q_move (v := (i64 0)) rfl rfl) ?_
        refine wl_nil ?_
        refine W_th ?_
        obtain ⟨x7, G7, H4⟩ := Option.bind_eq_some_iff.1 H4
        refine W_mid (fun f w => f 0 = (i64 a0r) ∧ f 1 = p1 ∧ f 2 = p2 ∧ f 7 = v7_5 ∧ f 8 = (i64 s4.2) ∧ f 9 = (u8 x7) ∧ f 45 = undef ∧ Ext w0 w ∧ OwK (Sc u8) w [v7_5] 5 v7_5 s4.1 ∧ Nw w0 v7_5) ?_ ?_
        · refine W_block ?_
          refine W_loop (fun s7 f w => f 0 = (i64 a0r) ∧ f 1 = p1 ∧ f 2 = p2 ∧ f 7 = v7_5 ∧ f 8 = (i64 s4.2) ∧ f 9 = (u8 s7.1) ∧ f 18 = (i64 ((a1xs.length : Int))) ∧ f 19 = (i64 s7.2) ∧ f 45 = undef ∧ Ext w0 w ∧ OwK (Sc u8) w [v7_5] 5 v7_5 s4.1 ∧ Nw w0 v7_5) G7 ?_ ?_
          · exact ⟨s0_5, s1_5, s2_5, s7_5, s8_5, rfl, rfl, rfl, s45_5, hE5, o0_5, n0_5⟩
          · rintro s7 _ _ w8 ⟨s0_8, s1_8, s2_8, s7_8, s8_8, s9_8, s18_8, s19_8, s45_8, hE8, o0_8, n0_8⟩ H7 hr7
            refine W_seq ?_
            refine W_reg (by kernel_rfl) ?_
            refine wla rfl rfl (q_ltI rfl s19_8 s18_8) ?_
            refine wl_nil ?_
            refine W_th ?_
            refine W_seq ?_
            refine W_cond _ rfl rfl (fun hb9 => ?_) (fun hb9 => ?_)
            · replace H7 := (if_pos (of_decide_eq_true hb9)).symm.trans H7
              refine W_skip ?_
              refine W_th ?_
              refine W_seq ?_
              refine W_block ?_
              refine W_seq ?_
              refine W_reg (by kernel_rfl) ?_
              refine wla rfl rfl (q_move (v := (i64 s7.2)) rfl s19_8) ?_
              refine wla rfl rfl (q_assign (v := (i64 s7.2)) rfl rfl) ?_
              refine wl_nil ?_
              refine W_th ?_
              refine W_draw [7, 11] [(0, 0), (1, 0), (2, 0), (4, 0), (5, 0), (6, 0), (7, 1), (8, 0), (9, 0), (10, 0), (11, 1), (12, 0), (3, 2), (13, 2), (14, 2), (15, 2), (16, 0), (17, 0)] mixed (by kernel_rfl) (by kernel_rfl) (by kernel_rfl) (by kernel_rfl) ?_
              have x10 := Ext.drew w8
              replace o0_8 := o0_8.extL (Sc.stab _) x10 (Lift.ext x10 _)
              have e11 := hE8.trans x10
              refine wsa rfl rfl rfl (q_move (v := (u8 s7.1)) rfl s9_8) ?_
              refine wsa rfl rfl rfl (q_move (v := p1) rfl s1_8) ?_
              refine wsa rfl rfl rfl (q_move (v := (i64 s7.2)) rfl rfl) ?_
              refine wsa rfl rfl rfl (q_move (v := p2) rfl s2_8) ?_
              refine wsa rfl rfl rfl (q_move (v := (i64 s7.2)) rfl rfl) ?_
              obtain ⟨c12, hc12, H7⟩ := Option.bind_eq_some_iff.1 H7
              refine wsa rfl rfl rfl (q_adr rfl T22 rfl rfl (hp2.lift (Lift.ext e11 _)) hc12) ?_
              refine wsq rfl rfl rfl (q_loadS rfl T22 rfl (hp2.lift (Lift.ext e11 _)) hc12) ?_
              refine wsa rfl rfl rfl (q_move (v := p1) rfl s1_8) ?_
              refine wsa rfl rfl rfl (q_move (v := (i64 s7.2)) rfl rfl) ?_
              obtain ⟨c13, hc13, H7⟩ := Option.bind_eq_some_iff.1 H7
              refine wsa rfl rfl rfl (q_adr rfl T22 rfl rfl (hp1.lift (Lift.ext e11 _)) hc13) ?_
              refine wsq rfl rfl rfl (q_loadS rfl T22 rfl (hp1.lift (Lift.ext e11 _)) hc13) ?_
              refine wsa rfl rfl rfl (q_move (v := (i64 s4.2)) rfl s8_8) ?_
              obtain ⟨r14, hr14, H7⟩ := Option.bind_eq_some_iff.1 H7
              refine wss rfl rfl rfl (stp_call (vs := [p1, (i64 s7.2)]) Try.func57 rfl rfl rfl (ar2 rfl rfl) (ref30_Weight_calls a1xs s7.2 p1 r14 _ (hp1.lift (Lift.ext e11 _)) hr14) ?_)
              rintro _ w14 ⟨rfl, x14⟩
              refine ⟨_, rfl, x14, ?_⟩
              replace o0_8 := o0_8.extL (Sc.stab _) x14 (Lift.ext x14 _)
              have e15 := e11.trans x14
              obtain ⟨r16, hr16, H7⟩ := Option.bind_eq_some_iff.1 H7
              refine wss rfl rfl rfl (stp_call (vs := [(u8 c13), (i64 s4.2)]) Try.func58 rfl rfl rfl (ar2 rfl rfl) (ref02_Pow_calls c13 s4.2  r16 _  hr16) ?_)
              rintro _ w16 ⟨rfl, x16⟩
              refine ⟨_, rfl, x16, ?_⟩
              replace o0_8 := o0_8.extL (Sc.stab _) x16 (Lift.ext x16 _)
              have e17 := e15.trans x16
              obtain ⟨r18, hr18, H7⟩ := Option.bind_eq_some_iff.1 H7
              refine wsc rfl (by kernel_rfl) rfl rfl (stp_call (vs := [(u8 c12), (u8 r16)]) Try.func48 rfl rfl rfl (ar2 rfl rfl) (ref02_Mul_calls c12 r16  r18 _  hr18) ?_)
              rintro _ w18 ⟨rfl, x18⟩
              refine ⟨_, rfl, ?_⟩
              replace o0_8 := o0_8.extL (Sc.stab _) x18 (Lift.ext x18 _)
              have e19 := e17.trans x18
              obtain ⟨r20, hr20, H7⟩ := Option.bind_eq_some_iff.1 H7
              refine wsc rfl (by kernel_rfl) rfl rfl (stp_call (vs := [(u8 r14), (u8 r18)]) Try.func48 rfl rfl rfl (ar2 rfl rfl) (ref02_Mul_calls r14 r18  r20 _  hr20) ?_)
              rintro _ w20 ⟨rfl, x20⟩
              refine ⟨_, rfl, ?_⟩
              replace o0_8 := o0_8.extL (Sc.stab _) x20 (Lift.ext x20 _)
              have e21 := e19.trans x20
              refine wsa rfl rfl rfl (q_xor8 rfl rfl rfl) ?_
              refine wsa rfl rfl rfl (q_assign (v := (u8 ((s7.1 ^^^ r20)))) rfl rfl) ?_
              refine ws_nil ?_
              refine bk_n ?_
              refine W_th ?_
              refine W_reg (by kernel_rfl) ?_
              refine wla rfl rfl (q_addI rfl s19_8 rfl) ?_
              refine wla rfl rfl (q_move (v := (i64 ((wI (s7.2 + 1))))) rfl rfl) ?_
              refine wl_nil ?_
              obtain rfl := Option.some.inj H7
              exact ⟨_, rfl, s0_8, s1_8, s2_8, s7_8, s8_8, rfl, s18_8, rfl, s45_8, e21, o0_8, n0_8⟩
            · replace H7 := (if_neg (of_decide_eq_false hb9)).symm.trans H7
              refine W_exit ?_
              refine th_x ?_
              obtain rfl := Option.some.inj H7
              obtain rfl := hr7 _ rfl
              refine th_x ?_
              refine bk_x ?_
              exact ⟨s0_8, s1_8, s2_8, s7_8, s8_8, s9_8, s45_8, hE8, o0_8, n0_8⟩
        · rintro _ w23 ⟨s0_23, s1_23, s2_23, s7_23, s8_23, s9_23, s45_23, hE23, o0_23, n0_23⟩
          refine W_th ?_
          refine W_reg (by kernel_rfl) ?_
          refine wla rfl rfl (q_move (v := v7_5) rfl s7_23) ?_
          refine wla rfl rfl (q_move (v := (u8 x7)) rfl s9_23) ?_
          refine wls rfl rfl (stp_lit (L := [v7_5]) (R := (Sc u8)) [(u8 x7)] ([x7] : List UInt8) rfl T22 rfl (by exact ⟨rfl, rfl, trivial⟩) rfl (litC u8 (oneC_u8) (us := [(u8 x7)]) (l := ([x7] : List UInt8)) rfl) rfl (litS u8 (us := [(u8 x7)]) (l := ([x7] : List UInt8)) rfl) ?_)
          intro v24 w24 o24 n24 g24 l24
          have x24 := grown_ext g24
          have i24 : By w24 [v7_5] v24 (([x7] : List UInt8)) := OwK.slk (Sc.stab _) _ o24 (fun k hk => (Old.cons (Old.nil _) o0_23.lt) k (n24 k hk)) (fun _ h => h.2)
          replace o0_23 := o0_23.extL (Sc.stab _) x24 (Lift.ext x24 _)
          have e25 := hE23.trans x24
          obtain ⟨c26, hc26, H4⟩ := Option.bind_eq_some_iff.1 H4
          refine wls rfl rfl (stp_append (R := (Sc u8)) (v := v7_5) (u := v24) (Sc.stab _) [] [] rfl T22 rfl rfl o0_23 i24 (fun _ _ h => h) hc26 oc_u8 ?_)
          intro v26 w26 o26 g26 nx26 l26
          replace i24 := i24.lift l26
          have e27 := e25.grown g26 n0_23
          have n28 := Nw.nxt e25 n0_23 nx26
          refine wla rfl rfl (q_assign (v := v26) rfl rfl) ?_
          refine wl_nil ?_
          refine bk_n ?_
          refine W_th ?_
          refine W_reg (by kernel_rfl) ?_
          refine wla rfl rfl (q_move (v := (i64 s4.2)) rfl s8_23) ?_
          refine wla rfl rfl (q_addI rfl rfl rfl) ?_
          refine wla rfl rfl (q_assign (v := (i64 ((wI (s4.2 + 1))))) rfl rfl) ?_
          refine wl_nil ?_
          obtain rfl := Option.some.inj H4
          exact ⟨_, rfl, v26, s0_23, s1_23, s2_23, rfl, rfl, s45_23, e27, o26, n28⟩
      · replace H4 := (if_neg (of_decide_eq_false hb6)).symm.trans H4
        refine W_exit ?_
        refine th_x ?_
        obtain rfl := Option.some.inj H4
        obtain rfl := hr4 _ rfl
        refine th_x ?_
        refine bk_x ?_
        exact ⟨v7_5, s7_5, s45_5, hE5, o0_5, n0_5⟩
  · rintro _ w31 ⟨v7_31, s7_31, s45_31, hE31, o0_31, n0_31⟩
    refine W_th ?_
    refine W_seq ?_
    refine W_reg (by kernel_rfl) ?_
    refine wla rfl rfl (q_move (v := v7_31) rfl s7_31) ?_
    refine wla rfl rfl (q_assign (v := v7_31) rfl rfl) ?_
    refine wl_nil ?_
    refine W_th ?_
    refine W_ret ?_
    obtain rfl := Option.some.inj H
    refine rt1 v7_31 rfl rfl rfl s45_31 ?_
    exact ⟨v7_31, rfl, hE31, n0_31, (o0_31.weak (Sc.stab _) (fun _ _ => trivial))⟩

end Gk

/- Printed by gen.py: for each Go function a pure function, and that the Go code comes to it. No condition beside the equation that says what the pure function gives. -/



set_option linter.unusedVariables false
set_option linter.unusedSimpArgs false
namespace Gk
open Go Go.Proofs

/-! largesse/largesselaw30.SyndromeTells -/
noncomputable def law30_SyndromeTells (a0t : Int) (a1xs : List UInt8) (a2ys : List UInt8) : Option Bool :=
((law30_lives ).bind fun r1 =>
(if (!r1) = true then
((law30_lives ).bind fun r4 => some r4)
else
(if 12 < (a1xs.length : Int) then
((law30_lives ).bind fun r7 => some r7)
else
(if 12 < (a2ys.length : Int) then
((law30_lives ).bind fun r10 => some r10)
else
((field_New ).bind fun r12 =>
((syndrome_Syndromes r12 a0t a1xs a2ys).bind fun r14 =>
((iterC (fun s16 : Bool × Int =>
(if s16.2 < (a1xs.length : Int) then
((idx a1xs s16.2).bind fun c19 =>
(if s16.1 = true then some (.inl (true, (wI (s16.2 + 1))))
else some (.inl ((decide (c19 = (0 : UInt8))), (wI (s16.2 + 1))))))
else some (.inr s16.1))) (false, 0)).bind fun x16 =>
(((if (a1xs.length : Int) = (a2ys.length : Int) then
(if a0t < 1 then some 2
else
(if 255 < a0t then some 2
else
(if x16 = true then some 2
else
(if (a1xs.length : Int) < a0t then some 5
else
((ref03_Places a1xs).bind fun r29 => some r29)))))
else some 1)).bind fun x23 =>
((syndrome_Syndromes false a0t a1xs a2ys).bind fun r32 =>
(if r14.2 = x23 then
(if r32.2 = 1 then
(if x23 = 0 then
((ref03_Through a1xs a2ys).bind fun r43 =>
((ref30_Syndromes (wI ((a1xs.length : Int) - a0t)) a1xs a2ys).bind fun r47 =>
(if r14.1 = r47 then
((word_Zero r14.1).bind fun r50 => some (r50 == ((decide ((r43.length : Int) ≤ a0t)))))
else some false)))
else
(if r14.2 = x23 then
(if r32.2 = 1 then some (decide ((r14.1.length : Int) = 0))
else some false)
else some false))
else
(if r14.2 = x23 then
(if r32.2 = 1 then some (decide ((r14.1.length : Int) = 0))
else some false)
else some false))
else
(if r14.2 = x23 then
(if r32.2 = 1 then some (decide ((r14.1.length : Int) = 0))
else some false)
else some false)))))))))))
set_option maxRecDepth 100000 in
set_option maxHeartbeats 8000000 in
theorem law30_SyndromeTells_calls (a0t : Int) (a1xs : List UInt8) (a2ys : List UInt8) (p1 : Value) (p2 : Value) (r : Bool) (w0 : World) (hp1 : By w0 [] p1 a1xs) (hp2 : By w0 [] p2 a2ys) (H : law30_SyndromeTells a0t a1xs a2ys = some r) :
    Calls Try.prog 6 [(i64 a0t), p1, p2].toArray w0 (fun e w' => e = .returned (.bool r) ∧ Ext w0 w') := by
  have hE : Ext w0 w0 := Ext.refl w0
  unfold law30_SyndromeTells at H
  refine calls_W (n := 127) Try.func6 rfl rfl rfl ?_
  refine W_seq ?_
  refine W_reg (by kernel_rfl) ?_
  refine wla rfl rfl (q_assign (v := (.bool false)) rfl rfl) ?_
  refine wl_nil ?_
  refine W_th ?_
  refine W_seq ?_
  refine W_seq ?_
  refine W_reg (by kernel_rfl) ?_
  obtain ⟨r1, hr1, H⟩ := Option.bind_eq_some_iff.1 H
  refine wls rfl rfl (stp_call (vs := []) Try.func24 rfl rfl rfl (ar0 ) (law30_lives_calls   r1 _  hr1) ?_)
  rintro _ w1 ⟨rfl, x1⟩
  refine ⟨_, rfl, ?_⟩
  have e2 := hE.trans x1
  refine wla rfl rfl (q_not rfl rfl) ?_
  refine wlb rfl rfl (q_move (v := (.bool ((!r1)))) rfl rfl) (fun hb3 => ?_) (fun hb3 => ?_)
  · replace H := (if_pos hb3).symm.trans H
    refine wlk rfl rfl ?_
    refine wlk rfl rfl ?_
    refine wlk rfl rfl ?_
    refine wla rfl rfl (q_pick_t (v := (.bool true)) rfl rfl rfl) ?_
    refine wla rfl rfl (q_move (v := (.bool true)) rfl rfl) ?_
    refine wlk rfl rfl ?_
    refine wlk rfl rfl ?_
    refine wlk rfl rfl ?_
    refine wla rfl rfl (q_pick_t (v := (.bool true)) rfl rfl rfl) ?_
    refine wl_nil ?_
    refine W_th ?_
    refine W_cond true rfl rfl (fun _ => ?_) (fun hb => by cases hb)
    refine W_seq ?_
    refine W_reg (by kernel_rfl) ?_
    obtain ⟨r4, hr4, H⟩ := Option.bind_eq_some_iff.1 H
    refine wls rfl rfl (stp_call (vs := []) Try.func24 rfl rfl rfl (ar0 ) (law30_lives_calls   r4 _  hr4) ?_)
    rintro _ w4 ⟨rfl, x4⟩
    refine ⟨_, rfl, ?_⟩
    have e5 := e2.trans x4
    refine wla rfl rfl (q_assign (v := (.bool r4)) rfl rfl) ?_
    refine wl_nil ?_
    refine W_th ?_
    refine W_ret ?_
    refine th_r ?_
    obtain rfl := Option.some.inj H
    refine rt1 (.bool r4) rfl rfl rfl rfl ?_
    exact ⟨rfl, e5⟩
  · replace H := (if_neg (ne_true_of_eq_false hb3)).symm.trans H
    refine wla rfl rfl (q_move (v := p1) rfl rfl) ?_
    refine wla rfl rfl (q_len rfl T22.sl rfl (hp1.lift (Lift.ext e2 _))) ?_
    refine wla rfl rfl (q_gtI rfl rfl rfl) ?_
    refine wla rfl rfl (q_pick_f (v := (.bool ((decide (12 < (a1xs.length : Int)))))) rfl rfl rfl) ?_
    refine wlb rfl rfl (q_move (v := (.bool ((decide (12 < (a1xs.length : Int)))))) rfl rfl) (fun hb6 => ?_) (fun hb6 => ?_)
    · replace H := (if_pos (of_decide_eq_true hb6)).symm.trans H
      refine wlk rfl rfl ?_
      refine wlk rfl rfl ?_
      refine wlk rfl rfl ?_
      refine wla rfl rfl (q_pick_t (v := (.bool true)) rfl rfl rfl) ?_
      refine wl_nil ?_
      refine W_th ?_
      refine W_cond true rfl rfl (fun _ => ?_) (fun hb => by cases hb)
      refine W_seq ?_
      refine W_reg (by kernel_rfl) ?_
      obtain ⟨r7, hr7, H⟩ := Option.bind_eq_some_iff.1 H
      refine wls rfl rfl (stp_call (vs := []) Try.func24 rfl rfl rfl (ar0 ) (law30_lives_calls   r7 _  hr7) ?_)
      rintro _ w7 ⟨rfl, x7⟩
      refine ⟨_, rfl, ?_⟩
      have e8 := e2.trans x7
      refine wla rfl rfl (q_assign (v := (.bool r7)) rfl rfl) ?_
      refine wl_nil ?_
      refine W_th ?_
      refine W_ret ?_
      refine th_r ?_
      obtain rfl := Option.some.inj H
      refine rt1 (.bool r7) rfl rfl rfl rfl ?_
      exact ⟨rfl, e8⟩
    · replace H := (if_neg (of_decide_eq_false hb6)).symm.trans H
      refine wla rfl rfl (q_move (v := p2) rfl rfl) ?_
      refine wla rfl rfl (q_len rfl T22.sl rfl (hp2.lift (Lift.ext e2 _))) ?_
      refine wla rfl rfl (q_gtI rfl rfl rfl) ?_
      refine wla rfl rfl (q_pick_f (v := (.bool ((decide (12 < (a2ys.length : Int)))))) rfl rfl rfl) ?_
      refine wl_nil ?_
      refine W_th ?_
      refine W_cond _ rfl rfl (fun hb9 => ?_) (fun hb9 => ?_)
      · replace H := (if_pos (of_decide_eq_true hb9)).symm.trans H
        refine W_seq ?_
        refine W_reg (by kernel_rfl) ?_
        obtain ⟨r10, hr10, H⟩ := Option.bind_eq_some_iff.1 H
        refine wls rfl rfl (stp_call (vs := []) Try.func24 rfl rfl rfl (ar0 ) (law30_lives_calls   r10 _  hr10) ?_)
        rintro _ w10 ⟨rfl, x10⟩
        refine ⟨_, rfl, ?_⟩
        have e11 := e2.trans x10
        refine wla rfl rfl (q_assign (v := (.bool r10)) rfl rfl) ?_
        refine wl_nil ?_
        refine W_th ?_
        refine W_ret ?_
        refine th_r ?_
        obtain rfl := Option.some.inj H
        refine rt1 (.bool r10) rfl rfl rfl rfl ?_
        exact ⟨rfl, e11⟩
      · replace H := (if_neg (of_decide_eq_false hb9)).symm.trans H
        refine W_skip ?_
        refine W_th ?_
        refine W_seq ?_
        refine W_reg (by kernel_rfl) ?_
        obtain ⟨r12, hr12, H⟩ := Option.bind_eq_some_iff.1 H
        refine wls rfl rfl (stp_call (vs := []) Try.func12 rfl rfl rfl (ar0 ) (field_New_calls   r12 _ [] (Old.nil _)  hr12) ?_)
        rintro _ w12 ⟨v12, rfl, x12, i12_0⟩
        refine ⟨_, rfl, ?_⟩
        have e13 := e2.trans x12
        refine wla rfl rfl (q_assign (v := v12) rfl rfl) ?_
        refine wl_nil ?_
        refine W_th ?_
        refine W_seq ?_
        refine W_reg (by kernel_rfl) ?_
        refine wla rfl rfl (q_move (v := v12) rfl rfl) ?_
        refine wla rfl rfl (q_move (v := (i64 a0t)) rfl rfl) ?_
        refine wla rfl rfl (q_move (v := p1) rfl rfl) ?_
        refine wla rfl rfl (q_move (v := p2) rfl rfl) ?_
        obtain ⟨r14, hr14, H⟩ := Option.bind_eq_some_iff.1 H
        refine wls rfl rfl (stp_call (vs := [v12, (i64 a0t), p1, p2]) Try.func25 rfl rfl rfl (ar4 rfl rfl rfl rfl) (syndrome_Syndromes_calls r12 a0t a1xs a2ys v12 p1 p2 r14 _ (i12_0.lift (Lift.sub (fun _ _ => trivial))) (hp1.lift (Lift.ext e13 _)) (hp2.lift (Lift.ext e13 _)) hr14) ?_)
        rintro _ w14 ⟨v14_0, rfl, x14, n14_0, o14_0⟩
        refine ⟨_, rfl, ?_⟩
        have i14_0 : By w14 [] v14_0 r14.1 := OwK.slk (Sc.stab _) _ (OwK.scal o14_0 (v14_0 :: [])) (fun k hk => (Old.nil _) k (n14_0 k hk)) (fun _ h => h.2)
        replace i12_0 := i12_0.lift (Lift.ext x14 _)
        have e15 := e13.trans x14
        refine wla rfl rfl (q_move (v := (.tuple #[v14_0, (i64 r14.2)])) rfl rfl) ?_
        refine wla rfl rfl (q_extract rfl rfl rfl) ?_
        refine wla rfl rfl (q_extract rfl rfl rfl) ?_
        refine wla rfl rfl (q_assign (v := v14_0) rfl rfl) ?_
        refine wla rfl rfl (q_assign (v := (i64 r14.2)) rfl rfl) ?_
        refine wl_nil ?_
        refine W_th ?_
        refine W_seq ?_
        refine W_reg (by kernel_rfl) ?_
        refine wla rfl rfl (q_assign (v := (.bool false)) rfl rfl) ?_
        refine wl_nil ?_
        refine W_th ?_
        refine W_seq ?_
        refine W_seq ?_
        refine W_reg (by kernel_rfl) ?_
        refine wla rfl rfl (q_move (v := p1) rfl rfl) ?_
        refine wla rfl rfl (q_len rfl T22.sl rfl (hp1.lift (Lift.ext e15 _))) ?_
        refine wla rfl rfl (q_move (v := (i64 0)) rfl rfl) ?_
        refine wl_nil ?_
        refine W_th ?_
        obtain ⟨x16, G16, H⟩ := Option.bind_eq_some_iff.1 H
        refine W_mid (fun f w => f 0 = (i64 a0t) ∧ f 1 = p1 ∧ f 2 = p2 ∧ f 8 = v14_0 ∧ f 9 = (i64 r14.2) ∧ f 10 = (.bool x16) ∧ f 127 = undef ∧ Ext w0 w ∧ By w [] v14_0 r14.1) ?_ ?_
        · refine W_block ?_
          refine W_loop (fun s16 f w => f 0 = (i64 a0t) ∧ f 1 = p1 ∧ f 2 = p2 ∧ f 8 = v14_0 ∧ f 9 = (i64 r14.2) ∧ f 10 = (.bool s16.1) ∧ f 39 = p1 ∧ f 40 = (i64 ((a1xs.length : Int))) ∧ f 41 = (i64 s16.2) ∧ f 127 = undef ∧ Ext w0 w ∧ By w [] v14_0 r14.1) G16 ?_ ?_
          · exact ⟨rfl, rfl, rfl, rfl, rfl, rfl, rfl, rfl, rfl, rfl, e15, i14_0⟩
          · rintro s16 _ _ w17 ⟨s0_17, s1_17, s2_17, s8_17, s9_17, s10_17, s39_17, s40_17, s41_17, s127_17, hE17, i0_17⟩ H16 hr16
            refine W_seq ?_
            refine W_reg (by kernel_rfl) ?_
            refine wla rfl rfl (q_ltI rfl s41_17 s40_17) ?_
            refine wl_nil ?_
            refine W_th ?_
            refine W_seq ?_
            refine W_cond _ rfl rfl (fun hb18 => ?_) (fun hb18 => ?_)
            · replace H16 := (if_pos (of_decide_eq_true hb18)).symm.trans H16
              refine W_skip ?_
              refine W_th ?_
              refine W_seq ?_
              refine W_block ?_
              refine W_seq ?_
              refine W_reg (by kernel_rfl) ?_
              obtain ⟨c19, hc19, H16⟩ := Option.bind_eq_some_iff.1 H16
              refine wla rfl rfl (q_adr rfl T22 s39_17 s41_17 (hp1.lift (Lift.ext hE17 _)) hc19) ?_
              refine wlq rfl rfl (q_loadS rfl T22 rfl (hp1.lift (Lift.ext hE17 _)) hc19) ?_
              refine wla rfl rfl (q_assign (v := (u8 c19)) rfl rfl) ?_
              refine wl_nil ?_
              refine W_th ?_
              refine W_reg (by kernel_rfl) ?_
              refine wla rfl rfl (q_move (v := (.bool s16.1)) rfl s10_17) ?_
              refine wlb rfl rfl (q_move (v := (.bool s16.1)) rfl rfl) (fun hb20 => ?_) (fun hb20 => ?_)
              · replace H16 := (if_pos hb20).symm.trans H16
                refine wlk rfl rfl ?_
                refine wlk rfl rfl ?_
                refine wla rfl rfl (q_pick_t (v := (.bool true)) rfl rfl rfl) ?_
                refine wla rfl rfl (q_assign (v := (.bool true)) rfl rfl) ?_
                refine wl_nil ?_
                refine bk_n ?_
                refine W_th ?_
                refine W_reg (by kernel_rfl) ?_
                refine wla rfl rfl (q_addI rfl s41_17 rfl) ?_
                refine wla rfl rfl (q_move (v := (i64 ((wI (s16.2 + 1))))) rfl rfl) ?_
                refine wl_nil ?_
                obtain rfl := Option.some.inj H16
                exact ⟨_, rfl, s0_17, s1_17, s2_17, s8_17, s9_17, rfl, s39_17, s40_17, rfl, s127_17, hE17, i0_17⟩
              · replace H16 := (if_neg (ne_true_of_eq_false hb20)).symm.trans H16
                refine wla rfl rfl (q_move (v := (u8 c19)) rfl rfl) ?_
                refine wla rfl rfl (q_eq8 rfl rfl (cst8 (0 : UInt8) rfl)) ?_
                refine wla rfl rfl (q_pick_f (v := (.bool ((decide (c19 = (0 : UInt8)))))) rfl rfl rfl) ?_
                refine wla rfl rfl (q_assign (v := (.bool ((decide (c19 = (0 : UInt8)))))) rfl rfl) ?_
                refine wl_nil ?_
                refine bk_n ?_
                refine W_th ?_
                refine W_reg (by kernel_rfl) ?_
                refine wla rfl rfl (q_addI rfl s41_17 rfl) ?_
                refine wla rfl rfl (q_move (v := (i64 ((wI (s16.2 + 1))))) rfl rfl) ?_
                refine wl_nil ?_
                obtain rfl := Option.some.inj H16
                exact ⟨_, rfl, s0_17, s1_17, s2_17, s8_17, s9_17, rfl, s39_17, s40_17, rfl, s127_17, hE17, i0_17⟩
            · replace H16 := (if_neg (of_decide_eq_false hb18)).symm.trans H16
              refine W_exit ?_
              refine th_x ?_
              obtain rfl := Option.some.inj H16
              obtain rfl := hr16 _ rfl
              refine th_x ?_
              refine bk_x ?_
              exact ⟨s0_17, s1_17, s2_17, s8_17, s9_17, s10_17, s127_17, hE17, i0_17⟩
        · rintro _ w22 ⟨s0_22, s1_22, s2_22, s8_22, s9_22, s10_22, s127_22, hE22, i0_22⟩
          refine W_th ?_
          refine W_seq ?_
          refine W_reg (by kernel_rfl) ?_
          refine wla rfl rfl (q_assign (v := (i64 0)) rfl rfl) ?_
          refine wl_nil ?_
          refine W_th ?_
          refine W_seq ?_
          obtain ⟨x23, H23, H⟩ := Option.bind_eq_some_iff.1 H
          refine W_mid (fun f w => f 0 = (i64 a0t) ∧ f 1 = p1 ∧ f 2 = p2 ∧ f 8 = v14_0 ∧ f 9 = (i64 r14.2) ∧ f 13 = (i64 x23) ∧ f 127 = undef ∧ Ext w0 w ∧ By w [] v14_0 r14.1) ?_ ?_
          · refine W_block ?_
            refine W_seq ?_
            refine W_reg (by kernel_rfl) ?_
            refine wla rfl rfl (q_move (v := p1) rfl s1_22) ?_
            refine wla rfl rfl (q_len rfl T22.sl rfl (hp1.lift (Lift.ext hE22 _))) ?_
            refine wla rfl rfl (q_move (v := p2) rfl s2_22) ?_
            refine wla rfl rfl (q_len rfl T22.sl rfl (hp2.lift (Lift.ext hE22 _))) ?_
            refine wla rfl rfl (q_neI rfl rfl rfl) ?_
            refine wla rfl rfl (q_assign (v := (.bool ((!decide ((a1xs.length : Int) = (a2ys.length : Int)))))) rfl rfl) ?_
            refine wl_nil ?_
            refine W_th ?_
            refine W_cond _ rfl rfl (fun hb24 => ?_) (fun hb24 => ?_)
            · replace H23 := (if_neg (ndec_t hb24)).symm.trans H23
              refine W_reg (by kernel_rfl) ?_
              refine wla rfl rfl (q_assign (v := (i64 1)) rfl rfl) ?_
              refine wl_nil ?_
              refine bk_n ?_
              obtain rfl := Option.some.inj H23
              exact ⟨s0_22, s1_22, s2_22, s8_22, s9_22, rfl, s127_22, hE22, i0_22⟩
            · replace H23 := (if_pos (ndec_f hb24)).symm.trans H23
              refine W_seq ?_
              refine W_reg (by kernel_rfl) ?_
              refine wla rfl rfl (q_move (v := (i64 a0t)) rfl s0_22) ?_
              refine wla rfl rfl (q_ltI rfl rfl rfl) ?_
              refine wlb rfl rfl (q_move (v := (.bool ((decide (a0t < 1))))) rfl rfl) (fun hb25 => ?_) (fun hb25 => ?_)
              · replace H23 := (if_pos (of_decide_eq_true hb25)).symm.trans H23
                refine wlk rfl rfl ?_
                refine wlk rfl rfl ?_
                refine wla rfl rfl (q_pick_t (v := (.bool true)) rfl rfl rfl) ?_
                refine wla rfl rfl (q_move (v := (.bool true)) rfl rfl) ?_
                refine wlk rfl rfl ?_
                refine wla rfl rfl (q_pick_t (v := (.bool true)) rfl rfl rfl) ?_
                refine wla rfl rfl (q_assign (v := (.bool true)) rfl rfl) ?_
                refine wl_nil ?_
                refine W_th ?_
                refine W_cond true rfl rfl (fun _ => ?_) (fun hb => by cases hb)
                refine W_reg (by kernel_rfl) ?_
                refine wla rfl rfl (q_assign (v := (i64 2)) rfl rfl) ?_
                refine wl_nil ?_
                refine bk_n ?_
                obtain rfl := Option.some.inj H23
                exact ⟨s0_22, s1_22, s2_22, s8_22, s9_22, rfl, s127_22, hE22, i0_22⟩
              · replace H23 := (if_neg (of_decide_eq_false hb25)).symm.trans H23
                refine wla rfl rfl (q_move (v := (i64 a0t)) rfl s0_22) ?_
                refine wla rfl rfl (q_gtI rfl rfl rfl) ?_
                refine wla rfl rfl (q_pick_f (v := (.bool ((decide (255 < a0t))))) rfl rfl rfl) ?_
                refine wlb rfl rfl (q_move (v := (.bool ((decide (255 < a0t))))) rfl rfl) (fun hb26 => ?_) (fun hb26 => ?_)
                · replace H23 := (if_pos (of_decide_eq_true hb26)).symm.trans H23
                  refine wlk rfl rfl ?_
                  refine wla rfl rfl (q_pick_t (v := (.bool true)) rfl rfl rfl) ?_
                  refine wla rfl rfl (q_assign (v := (.bool true)) rfl rfl) ?_
                  refine wl_nil ?_
                  refine W_th ?_
                  refine W_cond true rfl rfl (fun _ => ?_) (fun hb => by cases hb)
                  refine W_reg (by kernel_rfl) ?_
                  refine wla rfl rfl (q_assign (v := (i64 2)) rfl rfl) ?_
                  refine wl_nil ?_
                  refine bk_n ?_
                  obtain rfl := Option.some.inj H23
                  exact ⟨s0_22, s1_22, s2_22, s8_22, s9_22, rfl, s127_22, hE22, i0_22⟩
                · replace H23 := (if_neg (of_decide_eq_false hb26)).symm.trans H23
                  refine wla rfl rfl (q_move (v := (.bool x16)) rfl s10_22) ?_
                  refine wla rfl rfl (q_pick_f (v := (.bool x16)) rfl rfl rfl) ?_
                  refine wla rfl rfl (q_assign (v := (.bool x16)) rfl rfl) ?_
                  refine wl_nil ?_
                  refine W_th ?_
                  refine W_cond _ rfl rfl (fun hb27 => ?_) (fun hb27 => ?_)
                  · replace H23 := (if_pos hb27).symm.trans H23
                    refine W_reg (by kernel_rfl) ?_
                    refine wla rfl rfl (q_assign (v := (i64 2)) rfl rfl) ?_
                    refine wl_nil ?_
                    refine bk_n ?_
                    obtain rfl := Option.some.inj H23
                    exact ⟨s0_22, s1_22, s2_22, s8_22, s9_22, rfl, s127_22, hE22, i0_22⟩
                  · replace H23 := (if_neg (ne_true_of_eq_false hb27)).symm.trans H23
                    refine W_seq ?_
                    refine W_reg (by kernel_rfl) ?_
                    refine wla rfl rfl (q_move (v := p1) rfl s1_22) ?_
                    refine wla rfl rfl (q_len rfl T22.sl rfl (hp1.lift (Lift.ext hE22 _))) ?_
                    refine wla rfl rfl (q_move (v := (i64 a0t)) rfl s0_22) ?_
                    refine wla rfl rfl (q_ltI rfl rfl rfl) ?_
                    refine wla rfl rfl (q_assign (v := (.bool ((decide ((a1xs.length : Int) < a0t))))) rfl rfl) ?_
                    refine wl_nil ?_
                    refine W_th ?_
                    refine W_cond _ rfl rfl (fun hb28 => ?_) (fun hb28 => ?_)
                    · replace H23 := (if_pos (of_decide_eq_true hb28)).symm.trans H23
                      refine W_reg (by kernel_rfl) ?_
                      refine wla rfl rfl (q_assign (v := (i64 5)) rfl rfl) ?_
                      refine wl_nil ?_
                      refine bk_n ?_
                      obtain rfl := Option.some.inj H23
                      exact ⟨s0_22, s1_22, s2_22, s8_22, s9_22, rfl, s127_22, hE22, i0_22⟩
                    · replace H23 := (if_neg (of_decide_eq_false hb28)).symm.trans H23
                      refine W_reg (by kernel_rfl) ?_
                      refine wla rfl rfl (q_move (v := p1) rfl s1_22) ?_
                      obtain ⟨r29, hr29, H23⟩ := Option.bind_eq_some_iff.1 H23
                      refine wls rfl rfl (stp_call (vs := [p1]) Try.func13 rfl rfl rfl (ar1 rfl) (ref03_Places_calls a1xs p1 r29 _ (hp1.lift (Lift.ext hE22 _)) hr29) ?_)
                      rintro _ w29 ⟨rfl, x29⟩
                      refine ⟨_, rfl, ?_⟩
                      replace i0_22 := i0_22.lift (Lift.ext x29 _)
                      have e30 := hE22.trans x29
                      refine wla rfl rfl (q_assign (v := (i64 r29)) rfl rfl) ?_
                      refine wl_nil ?_
                      refine bk_n ?_
                      obtain rfl := Option.some.inj H23
                      exact ⟨s0_22, s1_22, s2_22, s8_22, s9_22, rfl, s127_22, e30, i0_22⟩
          · rintro _ w31 ⟨s0_31, s1_31, s2_31, s8_31, s9_31, s13_31, s127_31, hE31, i0_31⟩
            refine W_th ?_
            refine W_seq ?_
            refine W_reg (by kernel_rfl) ?_
            refine wla rfl rfl (q_move (v := (i64 a0t)) rfl s0_31) ?_
            refine wla rfl rfl (q_move (v := p1) rfl s1_31) ?_
            refine wla rfl rfl (q_move (v := p2) rfl s2_31) ?_
            obtain ⟨r32, hr32, H⟩ := Option.bind_eq_some_iff.1 H
            refine wls rfl rfl (stp_call (vs := [(.pointer none), (i64 a0t), p1, p2]) Try.func25 rfl rfl rfl (ar4 rfl rfl rfl rfl) (syndrome_Syndromes_calls false a0t a1xs a2ys (.pointer none) p1 p2 r32 _ (Fd.nil _ _) (hp1.lift (Lift.ext hE31 _)) (hp2.lift (Lift.ext hE31 _)) hr32) ?_)
            rintro _ w32 ⟨v32_0, rfl, x32, n32_0, o32_0⟩
            refine ⟨_, rfl, ?_⟩
            have i32_0 : By w32 [] v32_0 r32.1 := OwK.slk (Sc.stab _) _ (OwK.scal o32_0 (v32_0 :: [])) (fun k hk => (Old.nil _) k (n32_0 k hk)) (fun _ h => h.2)
            replace i0_31 := i0_31.lift (Lift.ext x32 _)
            have e33 := hE31.trans x32
            refine wla rfl rfl (q_move (v := (.tuple #[v32_0, (i64 r32.2)])) rfl rfl) ?_
            refine wla rfl rfl (q_extract rfl rfl rfl) ?_
            refine wla rfl rfl (q_extract rfl rfl rfl) ?_
            refine wla rfl rfl (q_assign (v := v32_0) rfl rfl) ?_
            refine wla rfl rfl (q_assign (v := (i64 r32.2)) rfl rfl) ?_
            refine wl_nil ?_
            refine W_th ?_
            refine W_seq ?_
            refine W_seq ?_
            refine W_reg (by kernel_rfl) ?_
            refine wla rfl rfl (q_move (v := (i64 r14.2)) rfl s9_31) ?_
            refine wla rfl rfl (q_move (v := (i64 x23)) rfl s13_31) ?_
            refine wla rfl rfl (q_neI rfl rfl rfl) ?_
            refine wlb rfl rfl (q_move (v := (.bool ((!decide (r14.2 = x23))))) rfl rfl) (fun hb34 => ?_) (fun hb34 => ?_)
            · replace H := (if_neg (ndec_t hb34)).symm.trans H
              refine wlk rfl rfl ?_
              refine wlk rfl rfl ?_
              refine wla rfl rfl (q_pick_t (v := (.bool true)) rfl rfl rfl) ?_
              refine wla rfl rfl (q_move (v := (.bool true)) rfl rfl) ?_
              refine wlk rfl rfl ?_
              refine wlk rfl rfl ?_
              refine wla rfl rfl (q_pick_t (v := (.bool true)) rfl rfl rfl) ?_
              refine wl_nil ?_
              refine W_th ?_
              refine W_cond true rfl rfl (fun _ => ?_) (fun hb => by cases hb)
              refine W_seq ?_
              refine W_reg (by kernel_rfl) ?_
              refine wla rfl rfl (q_move (v := (i64 r14.2)) rfl s9_31) ?_
              refine wla rfl rfl (q_move (v := (i64 x23)) rfl s13_31) ?_
              refine wla rfl rfl (q_eqI rfl rfl rfl) ?_
              refine wlb rfl rfl (q_move (v := (.bool ((decide (r14.2 = x23))))) rfl rfl) (fun hb35 => ?_) (fun hb35 => ?_)
              · replace H := (if_pos (of_decide_eq_true hb35)).symm.trans H
                refine wla rfl rfl (q_move (v := (i64 r32.2)) rfl rfl) ?_
                refine wla rfl rfl (q_eqI rfl rfl rfl) ?_
                refine wla rfl rfl (q_pick_t (v := (.bool ((decide (r32.2 = 1))))) rfl rfl rfl) ?_
                refine wlb rfl rfl (q_move (v := (.bool ((decide (r32.2 = 1))))) rfl rfl) (fun hb36 => ?_) (fun hb36 => ?_)
                · replace H := (if_pos (of_decide_eq_true hb36)).symm.trans H
                  refine wla rfl rfl (q_move (v := v14_0) rfl s8_31) ?_
                  refine wla rfl rfl (q_len rfl T22.sl rfl i0_31) ?_
                  refine wla rfl rfl (q_eqI rfl rfl rfl) ?_
                  refine wla rfl rfl (q_pick_t (v := (.bool ((decide ((r14.1.length : Int) = 0))))) rfl rfl rfl) ?_
                  refine wla rfl rfl (q_assign (v := (.bool ((decide ((r14.1.length : Int) = 0))))) rfl rfl) ?_
                  refine wl_nil ?_
                  refine W_th ?_
                  refine W_ret ?_
                  refine th_r ?_
                  obtain rfl := Option.some.inj H
                  refine rt1 (.bool ((decide ((r14.1.length : Int) = 0)))) rfl rfl rfl s127_31 ?_
                  exact ⟨rfl, e33⟩
                · replace H := (if_neg (of_decide_eq_false hb36)).symm.trans H
                  refine wlk rfl rfl ?_
                  refine wlk rfl rfl ?_
                  refine wlk rfl rfl ?_
                  refine wla rfl rfl (q_pick_f (v := (.bool false)) rfl rfl rfl) ?_
                  refine wla rfl rfl (q_assign (v := (.bool false)) rfl rfl) ?_
                  refine wl_nil ?_
                  refine W_th ?_
                  refine W_ret ?_
                  refine th_r ?_
                  obtain rfl := Option.some.inj H
                  refine rt1 (.bool false) rfl rfl rfl s127_31 ?_
                  exact ⟨rfl, e33⟩
              · replace H := (if_neg (of_decide_eq_false hb35)).symm.trans H
                refine wlk rfl rfl ?_
                refine wlk rfl rfl ?_
                refine wla rfl rfl (q_pick_f (v := (.bool false)) rfl rfl rfl) ?_
                refine wla rfl rfl (q_move (v := (.bool false)) rfl rfl) ?_
                refine wlk rfl rfl ?_
                refine wlk rfl rfl ?_
                refine wlk rfl rfl ?_
                refine wla rfl rfl (q_pick_f (v := (.bool false)) rfl rfl rfl) ?_
                refine wla rfl rfl (q_assign (v := (.bool false)) rfl rfl) ?_
                refine wl_nil ?_
                refine W_th ?_
                refine W_ret ?_
                refine th_r ?_
                obtain rfl := Option.some.inj H
                refine rt1 (.bool false) rfl rfl rfl s127_31 ?_
                exact ⟨rfl, e33⟩
            · replace H := (if_pos (ndec_f hb34)).symm.trans H
              refine wla rfl rfl (q_move (v := (i64 r32.2)) rfl rfl) ?_
              refine wla rfl rfl (q_neI rfl rfl rfl) ?_
              refine wla rfl rfl (q_pick_f (v := (.bool ((!decide (r32.2 = 1))))) rfl rfl rfl) ?_
              refine wlb rfl rfl (q_move (v := (.bool ((!decide (r32.2 = 1))))) rfl rfl) (fun hb37 => ?_) (fun hb37 => ?_)
              · replace H := (if_neg (ndec_t hb37)).symm.trans H
                refine wlk rfl rfl ?_
                refine wlk rfl rfl ?_
                refine wla rfl rfl (q_pick_t (v := (.bool true)) rfl rfl rfl) ?_
                refine wl_nil ?_
                refine W_th ?_
                refine W_cond true rfl rfl (fun _ => ?_) (fun hb => by cases hb)
                refine W_seq ?_
                refine W_reg (by kernel_rfl) ?_
                refine wla rfl rfl (q_move (v := (i64 r14.2)) rfl s9_31) ?_
                refine wla rfl rfl (q_move (v := (i64 x23)) rfl s13_31) ?_
                refine wla rfl rfl (q_eqI rfl rfl rfl) ?_
                refine wlb rfl rfl (q_move (v := (.bool ((decide (r14.2 = x23))))) rfl rfl) (fun hb38 => ?_) (fun hb38 => ?_)
                · replace H := (if_pos (of_decide_eq_true hb38)).symm.trans H
                  refine wla rfl rfl (q_move (v := (i64 r32.2)) rfl rfl) ?_
                  refine wla rfl rfl (q_eqI rfl rfl rfl) ?_
                  refine wla rfl rfl (q_pick_t (v := (.bool ((decide (r32.2 = 1))))) rfl rfl rfl) ?_
                  refine wlb rfl rfl (q_move (v := (.bool ((decide (r32.2 = 1))))) rfl rfl) (fun hb39 => ?_) (fun hb39 => ?_)
                  · replace H := (if_pos (of_decide_eq_true hb39)).symm.trans H
                    refine wla rfl rfl (q_move (v := v14_0) rfl s8_31) ?_
                    refine wla rfl rfl (q_len rfl T22.sl rfl i0_31) ?_
                    refine wla rfl rfl (q_eqI rfl rfl rfl) ?_
                    refine wla rfl rfl (q_pick_t (v := (.bool ((decide ((r14.1.length : Int) = 0))))) rfl rfl rfl) ?_
                    refine wla rfl rfl (q_assign (v := (.bool ((decide ((r14.1.length : Int) = 0))))) rfl rfl) ?_
                    refine wl_nil ?_
                    refine W_th ?_
                    refine W_ret ?_
                    refine th_r ?_
                    obtain rfl := Option.some.inj H
                    refine rt1 (.bool ((decide ((r14.1.length : Int) = 0)))) rfl rfl rfl s127_31 ?_
                    exact ⟨rfl, e33⟩
                  · replace H := (if_neg (of_decide_eq_false hb39)).symm.trans H
                    refine wlk rfl rfl ?_
                    refine wlk rfl rfl ?_
                    refine wlk rfl rfl ?_
                    refine wla rfl rfl (q_pick_f (v := (.bool false)) rfl rfl rfl) ?_
                    refine wla rfl rfl (q_assign (v := (.bool false)) rfl rfl) ?_
                    refine wl_nil ?_
                    refine W_th ?_
                    refine W_ret ?_
                    refine th_r ?_
                    obtain rfl := Option.some.inj H
                    refine rt1 (.bool false) rfl rfl rfl s127_31 ?_
                    exact ⟨rfl, e33⟩
                · replace H := (if_neg (of_decide_eq_false hb38)).symm.trans H
                  refine wlk rfl rfl ?_
                  refine wlk rfl rfl ?_
                  refine wla rfl rfl (q_pick_f (v := (.bool false)) rfl rfl rfl) ?_
                  refine wla rfl rfl (q_move (v := (.bool false)) rfl rfl) ?_
                  refine wlk rfl rfl ?_
                  refine wlk rfl rfl ?_
                  refine wlk rfl rfl ?_
                  refine wla rfl rfl (q_pick_f (v := (.bool false)) rfl rfl rfl) ?_
                  refine wla rfl rfl (q_assign (v := (.bool false)) rfl rfl) ?_
                  refine wl_nil ?_
                  refine W_th ?_
                  refine W_ret ?_
                  refine th_r ?_
                  obtain rfl := Option.some.inj H
                  refine rt1 (.bool false) rfl rfl rfl s127_31 ?_
                  exact ⟨rfl, e33⟩
              · replace H := (if_pos (ndec_f hb37)).symm.trans H
                refine wla rfl rfl (q_move (v := (i64 x23)) rfl s13_31) ?_
                refine wla rfl rfl (q_neI rfl rfl rfl) ?_
                refine wla rfl rfl (q_pick_f (v := (.bool ((!decide (x23 = 0))))) rfl rfl rfl) ?_
                refine wl_nil ?_
                refine W_th ?_
                refine W_cond _ rfl rfl (fun hb40 => ?_) (fun hb40 => ?_)
                · replace H := (if_neg (ndec_t hb40)).symm.trans H
                  refine W_seq ?_
                  refine W_reg (by kernel_rfl) ?_
                  refine wla rfl rfl (q_move (v := (i64 r14.2)) rfl s9_31) ?_
                  refine wla rfl rfl (q_move (v := (i64 x23)) rfl s13_31) ?_
                  refine wla rfl rfl (q_eqI rfl rfl rfl) ?_
                  refine wlb rfl rfl (q_move (v := (.bool ((decide (r14.2 = x23))))) rfl rfl) (fun hb41 => ?_) (fun hb41 => ?_)
                  · replace H := (if_pos (of_decide_eq_true hb41)).symm.trans H
                    refine wla rfl rfl (q_move (v := (i64 r32.2)) rfl rfl) ?_
                    refine wla rfl rfl (q_eqI rfl rfl rfl) ?_
                    refine wla rfl rfl (q_pick_t (v := (.bool ((decide (r32.2 = 1))))) rfl rfl rfl) ?_
                    refine wlb rfl rfl (q_move (v := (.bool ((decide (r32.2 = 1))))) rfl rfl) (fun hb42 => ?_) (fun hb42 => ?_)
                    · replace H := (if_pos (of_decide_eq_true hb42)).symm.trans H
                      refine wla rfl rfl (q_move (v := v14_0) rfl s8_31) ?_
                      refine wla rfl rfl (q_len rfl T22.sl rfl i0_31) ?_
                      refine wla rfl rfl (q_eqI rfl rfl rfl) ?_
                      refine wla rfl rfl (q_pick_t (v := (.bool ((decide ((r14.1.length : Int) = 0))))) rfl rfl rfl) ?_
                      refine wla rfl rfl (q_assign (v := (.bool ((decide ((r14.1.length : Int) = 0))))) rfl rfl) ?_
                      refine wl_nil ?_
                      refine W_th ?_
                      refine W_ret ?_
                      refine th_r ?_
                      obtain rfl := Option.some.inj H
                      refine rt1 (.bool ((decide ((r14.1.length : Int) = 0)))) rfl rfl rfl s127_31 ?_
                      exact ⟨rfl, e33⟩
                    · replace H := (if_neg (of_decide_eq_false hb42)).symm.trans H
                      refine wlk rfl rfl ?_
                      refine wlk rfl rfl ?_
                      refine wlk rfl rfl ?_
                      refine wla rfl rfl (q_pick_f (v := (.bool false)) rfl rfl rfl) ?_
                      refine wla rfl rfl (q_assign (v := (.bool false)) rfl rfl) ?_
                      refine wl_nil ?_
                      refine W_th ?_
                      refine W_ret ?_
                      refine th_r ?_
                      obtain rfl := Option.some.inj H
                      refine rt1 (.bool false) rfl rfl rfl s127_31 ?_
                      exact ⟨rfl, e33⟩
                  · replace H := (if_neg (of_decide_eq_false hb41)).symm.trans H
                    refine wlk rfl rfl ?_
                    refine wlk rfl rfl ?_
                    refine wla rfl rfl (q_pick_f (v := (.bool false)) rfl rfl rfl) ?_
                    refine wla rfl rfl (q_move (v := (.bool false)) rfl rfl) ?_
                    refine wlk rfl rfl ?_
                    refine wlk rfl rfl ?_
                    refine wlk rfl rfl ?_
                    refine wla rfl rfl (q_pick_f (v := (.bool false)) rfl rfl rfl) ?_
                    refine wla rfl rfl (q_assign (v := (.bool false)) rfl rfl) ?_
                    refine wl_nil ?_
                    refine W_th ?_
                    refine W_ret ?_
                    refine th_r ?_
                    obtain rfl := Option.some.inj H
                    refine rt1 (.bool false) rfl rfl rfl s127_31 ?_
                    exact ⟨rfl, e33⟩
                · replace H := (if_pos (ndec_f hb40)).symm.trans H
                  refine W_skip ?_
                  refine W_th ?_
                  refine W_seq ?_
                  refine W_reg (by kernel_rfl) ?_
                  refine wla rfl rfl (q_move (v := p1) rfl s1_31) ?_
                  refine wla rfl rfl (q_move (v := p2) rfl s2_31) ?_
                  obtain ⟨r43, hr43, H⟩ := Option.bind_eq_some_iff.1 H
                  refine wls rfl rfl (stp_call (vs := [p1, p2]) Try.func26 rfl rfl rfl (ar2 rfl rfl) (ref03_Through_calls a1xs a2ys p1 p2 r43 _ (hp1.lift (Lift.ext e33 _)) (hp2.lift (Lift.ext e33 _)) hr43) ?_)
                  rintro _ w43 ⟨v43, rfl, x43, n43_0, o43_0⟩
                  refine ⟨_, rfl, ?_⟩
                  have i43_0 : By w43 [] v43 r43 := OwK.slk (Sc.stab _) _ (OwK.scal o43_0 (v43 :: [])) (fun k hk => (Old.nil _) k (n43_0 k hk)) (fun _ h => h.2)
                  replace i0_31 := i0_31.lift (Lift.ext x43 _)
                  replace i32_0 := i32_0.lift (Lift.ext x43 _)
                  have e44 := e33.trans x43
                  refine wla rfl rfl (q_assign (v := v43) rfl rfl) ?_
                  refine wl_nil ?_
                  refine W_th ?_
                  refine W_seq ?_
                  refine W_draw [1, 9] [(0, 0), (1, 1), (2, 0), (3, 0), (4, 0), (5, 0), (6, 0), (7, 0), (8, 2), (9, 1), (10, 0), (11, 0), (12, 0), (14, 0), (15, 0), (16, 0), (17, 0), (13, 2), (18, 0), (19, 0), (20, 0)] mixed (by kernel_rfl) (by kernel_rfl) (by kernel_rfl) (by kernel_rfl) ?_
                  have x45 := Ext.drew w43
                  replace i0_31 := i0_31.lift (Lift.ext x45 _)
                  replace i32_0 := i32_0.lift (Lift.ext x45 _)
                  replace i43_0 := i43_0.lift (Lift.ext x45 _)
                  have e46 := e44.trans x45
                  refine wsa rfl rfl rfl (q_move (v := v14_0) rfl s8_31) ?_
                  refine wsq rfl rfl rfl (q_str rfl T22 rfl rfl rfl i0_31) ?_
                  refine wsa rfl rfl rfl (q_move (v := p1) rfl s1_31) ?_
                  refine wsa rfl rfl rfl (q_len rfl T22.sl rfl (hp1.lift (Lift.ext e46 _))) ?_
                  refine wsa rfl rfl rfl (q_move (v := (i64 a0t)) rfl s0_31) ?_
                  refine wsa rfl rfl rfl (q_subI rfl rfl rfl) ?_
                  refine wsa rfl rfl rfl (q_move (v := p1) rfl s1_31) ?_
                  refine wsa rfl rfl rfl (q_move (v := p2) rfl s2_31) ?_
                  obtain ⟨r47, hr47, H⟩ := Option.bind_eq_some_iff.1 H
                  refine wss rfl rfl rfl (stp_call (vs := [(i64 ((wI ((a1xs.length : Int) - a0t)))), p1, p2]) Try.func27 rfl rfl rfl (ar3 rfl rfl rfl) (ref30_Syndromes_calls (wI ((a1xs.length : Int) - a0t)) a1xs a2ys p1 p2 r47 _ (hp1.lift (Lift.ext e46 _)) (hp2.lift (Lift.ext e46 _)) hr47) ?_)
                  rintro _ w47 ⟨v47, rfl, x47, n47_0, o47_0⟩
                  refine ⟨_, rfl, x47, ?_⟩
                  have i47_0 : By w47 [] v47 r47 := OwK.slk (Sc.stab _) _ (OwK.scal o47_0 (v47 :: [])) (fun k hk => (Old.nil _) k (n47_0 k hk)) (fun _ h => h.2)
                  replace i0_31 := i0_31.lift (Lift.ext x47 _)
                  replace i32_0 := i32_0.lift (Lift.ext x47 _)
                  replace i43_0 := i43_0.lift (Lift.ext x47 _)
                  have e48 := e46.trans x47
                  refine wsq rfl rfl rfl (q_str rfl T22 rfl rfl rfl i47_0) ?_
                  refine wsa rfl rfl rfl (q_eqS rfl rfl rfl) ?_
                  refine wsb rfl rfl rfl (q_move (v := (.bool ((decide (r14.1 = r47))))) rfl rfl) (fun hb49 => ?_) (fun hb49 => ?_)
                  · replace H := (if_pos (of_decide_eq_true hb49)).symm.trans H
                    refine wsa rfl rfl rfl (q_move (v := v14_0) rfl s8_31) ?_
                    refine wsa rfl rfl rfl (q_move (v := v43) rfl rfl) ?_
                    refine wsa rfl rfl rfl (q_len rfl T22.sl rfl i43_0) ?_
                    refine wsa rfl rfl rfl (q_move (v := (i64 a0t)) rfl s0_31) ?_
                    refine wsa rfl rfl rfl (q_leI rfl rfl rfl) ?_
                    obtain ⟨r50, hr50, H⟩ := Option.bind_eq_some_iff.1 H
                    refine wsc rfl (by kernel_rfl) rfl rfl (stp_call (vs := [v14_0]) Try.func28 rfl rfl rfl (ar1 rfl) (word_Zero_calls r14.1 v14_0 r50 _ (i0_31.lift (Lift.sub (fun _ _ => trivial))) hr50) ?_)
                    rintro _ w50 ⟨rfl, x50⟩
                    refine ⟨_, rfl, ?_⟩
                    replace i0_31 := i0_31.lift (Lift.ext x50 _)
                    replace i32_0 := i32_0.lift (Lift.ext x50 _)
                    replace i43_0 := i43_0.lift (Lift.ext x50 _)
                    replace i47_0 := i47_0.lift (Lift.ext x50 _)
                    have e51 := e48.trans x50
                    refine wsa rfl rfl rfl (q_eqB rfl (by kernel_rfl) rfl rfl) ?_
                    refine wsa rfl rfl rfl (q_pick_t (v := (.bool ((r50 == ((decide ((r43.length : Int) ≤ a0t))))))) rfl rfl rfl) ?_
                    refine wsa rfl rfl rfl (q_assign (v := (.bool ((r50 == ((decide ((r43.length : Int) ≤ a0t))))))) rfl rfl) ?_
                    refine ws_nil ?_
                    refine W_th ?_
                    refine W_ret ?_
                    obtain rfl := Option.some.inj H
                    refine rt1 (.bool ((r50 == ((decide ((r43.length : Int) ≤ a0t)))))) rfl rfl rfl s127_31 ?_
                    exact ⟨rfl, e51⟩
                  · replace H := (if_neg (of_decide_eq_false hb49)).symm.trans H
                    refine wsk rfl rfl rfl ?_
                    refine wsk rfl rfl rfl ?_
                    refine wsk rfl rfl rfl ?_
                    refine wsk rfl rfl rfl ?_
                    refine wsk rfl rfl rfl ?_
                    refine wsk rfl rfl rfl ?_
                    refine wsk rfl rfl rfl ?_
                    refine wsa rfl rfl rfl (q_pick_f (v := (.bool false)) rfl rfl rfl) ?_
                    refine wsa rfl rfl rfl (q_assign (v := (.bool false)) rfl rfl) ?_
                    refine ws_nil ?_
                    refine W_th ?_
                    refine W_ret ?_
                    obtain rfl := Option.some.inj H
                    refine rt1 (.bool false) rfl rfl rfl s127_31 ?_
                    exact ⟨rfl, e48⟩

end Gk

/- Printed by gen.py: for each Go function a pure function, and that the Go code comes to it. No condition beside the equation that says what the pure function gives. -/

set_option linter.unusedVariables false
set_option linter.unusedSimpArgs false
namespace Gk
open Go Go.Proofs

/-! largesse/largesselaw30.SyndromeAdds -/
noncomputable def law30_SyndromeAdds (a0t : Int) (a1xs : List UInt8) (a2ys : List UInt8) (a3zs : List UInt8) : Option Bool :=
((law30_lives ).bind fun r1 =>
(if (!r1) = true then
((law30_lives ).bind fun r4 => some r4)
else
(if 16 < (a1xs.length : Int) then
((law30_lives ).bind fun r7 => some r7)
else
(if 16 < (a2ys.length : Int) then
((law30_lives ).bind fun r10 => some r10)
else
(if 100 < (a3zs.length : Int) then
((law30_lives ).bind fun r13 => some r13)
else
((field_New ).bind fun r15 =>
((syndrome_Syndromes r15 a0t a1xs a2ys).bind fun r17 =>
(if r17.2 = 0 then
((law08_Made a3zs (a2ys.length : Int)).bind fun r20 =>
((syndrome_Syndromes r15 a0t a1xs r20).bind fun r22 =>
((word_Xor a2ys r20).bind fun r24 =>
((syndrome_Syndromes r15 a0t a1xs r24).bind fun r26 =>
(if r22.2 = 0 then
(if r26.2 = 0 then
((word_Xor r17.1 r22.1).bind fun r32 =>
(if r26.1 = r32 then some (decide ((r17.1.length : Int) = (wI ((a1xs.length : Int) - a0t))))
else some false))
else some false)
else some false)))))
else some (decide ((r17.1.length : Int) = 0))))))))))
set_option maxRecDepth 100000 in
set_option maxHeartbeats 8000000 in
theorem law30_SyndromeAdds_calls (a0t : Int) (a1xs : List UInt8) (a2ys : List UInt8) (a3zs : List UInt8) (p1 : Value) (p2 : Value) (p3 : Value) (r : Bool) (w0 : World) (hp1 : By w0 [] p1 a1xs) (hp2 : By w0 [] p2 a2ys) (hp3 : By w0 [] p3 a3zs) (H : law30_SyndromeAdds a0t a1xs a2ys a3zs = some r) :
    Calls Try.prog 8 [(i64 a0t), p1, p2, p3].toArray w0 (fun e w' => e = .returned (.bool r) ∧ Ext w0 w') := by
  have hE : Ext w0 w0 := Ext.refl w0
  unfold law30_SyndromeAdds at H
  refine calls_W (n := 95) Try.func8 rfl rfl rfl ?_
  refine W_seq ?_
  refine W_reg (by kernel_rfl) ?_
  refine wla rfl rfl (q_assign (v := (.bool false)) rfl rfl) ?_
  refine wl_nil ?_
  refine W_th ?_
  refine W_seq ?_
  refine W_seq ?_
  refine W_reg (by kernel_rfl) ?_
  obtain ⟨r1, hr1, H⟩ := Option.bind_eq_some_iff.1 H
  refine wls rfl rfl (stp_call (vs := []) Try.func24 rfl rfl rfl (ar0 ) (law30_lives_calls   r1 _  hr1) ?_)
  rintro _ w1 ⟨rfl, x1⟩
  refine ⟨_, rfl, ?_⟩
  have e2 := hE.trans x1
  refine wla rfl rfl (q_not rfl rfl) ?_
  refine wlb rfl rfl (q_move (v := (.bool ((!r1)))) rfl rfl) (fun hb3 => ?_) (fun hb3 => ?_)
  · replace H := (if_pos hb3).symm.trans H
    refine wlk rfl rfl ?_
    refine wlk rfl rfl ?_
    refine wlk rfl rfl ?_
    refine wla rfl rfl (q_pick_t (v := (.bool true)) rfl rfl rfl) ?_
    refine wla rfl rfl (q_move (v := (.bool true)) rfl rfl) ?_
    refine wlk rfl rfl ?_
    refine wlk rfl rfl ?_
    refine wlk rfl rfl ?_
    refine wla rfl rfl (q_pick_t (v := (.bool true)) rfl rfl rfl) ?_
    refine wla rfl rfl (q_move (v := (.bool true)) rfl rfl) ?_
    refine wlk rfl rfl ?_
    refine wlk rfl rfl ?_
    refine wlk rfl rfl ?_
    refine wla rfl rfl (q_pick_t (v := (.bool true)) rfl rfl rfl) ?_
    refine wl_nil ?_
    refine W_th ?_
    refine W_cond true rfl rfl (fun _ => ?_) (fun hb => by cases hb)
    refine W_seq ?_
    refine W_reg (by kernel_rfl) ?_
    obtain ⟨r4, hr4, H⟩ := Option.bind_eq_some_iff.1 H
    refine wls rfl rfl (stp_call (vs := []) Try.func24 rfl rfl rfl (ar0 ) (law30_lives_calls   r4 _  hr4) ?_)
    rintro _ w4 ⟨rfl, x4⟩
    refine ⟨_, rfl, ?_⟩
    have e5 := e2.trans x4
    refine wla rfl rfl (q_assign (v := (.bool r4)) rfl rfl) ?_
    refine wl_nil ?_
    refine W_th ?_
    refine W_ret ?_
    refine th_r ?_
    obtain rfl := Option.some.inj H
    refine rt1 (.bool r4) rfl rfl rfl rfl ?_
    exact ⟨rfl, e5⟩
  · replace H := (if_neg (ne_true_of_eq_false hb3)).symm.trans H
    refine wla rfl rfl (q_move (v := p1) rfl rfl) ?_
    refine wla rfl rfl (q_len rfl T22.sl rfl (hp1.lift (Lift.ext e2 _))) ?_
    refine wla rfl rfl (q_gtI rfl rfl rfl) ?_
    refine wla rfl rfl (q_pick_f (v := (.bool ((decide (16 < (a1xs.length : Int)))))) rfl rfl rfl) ?_
    refine wlb rfl rfl (q_move (v := (.bool ((decide (16 < (a1xs.length : Int)))))) rfl rfl) (fun hb6 => ?_) (fun hb6 => ?_)
    · replace H := (if_pos (of_decide_eq_true hb6)).symm.trans H
      refine wlk rfl rfl ?_
      refine wlk rfl rfl ?_
      refine wlk rfl rfl ?_
      refine wla rfl rfl (q_pick_t (v := (.bool true)) rfl rfl rfl) ?_
      refine wla rfl rfl (q_move (v := (.bool true)) rfl rfl) ?_
      refine wlk rfl rfl ?_
      refine wlk rfl rfl ?_
      refine wlk rfl rfl ?_
      refine wla rfl rfl (q_pick_t (v := (.bool true)) rfl rfl rfl) ?_
      refine wl_nil ?_
      refine W_th ?_
      refine W_cond true rfl rfl (fun _ => ?_) (fun hb => by cases hb)
      refine W_seq ?_
      refine W_reg (by kernel_rfl) ?_
      obtain ⟨r7, hr7, H⟩ := Option.bind_eq_some_iff.1 H
      refine wls rfl rfl (stp_call (vs := []) Try.func24 rfl rfl rfl (ar0 ) (law30_lives_calls   r7 _  hr7) ?_)
      rintro _ w7 ⟨rfl, x7⟩
      refine ⟨_, rfl, ?_⟩
      have e8 := e2.trans x7
      refine wla rfl rfl (q_assign (v := (.bool r7)) rfl rfl) ?_
      refine wl_nil ?_
      refine W_th ?_
      refine W_ret ?_
      refine th_r ?_
      obtain rfl := Option.some.inj H
      refine rt1 (.bool r7) rfl rfl rfl rfl ?_
      exact ⟨rfl, e8⟩
    · replace H := (if_neg (of_decide_eq_false hb6)).symm.trans H
      refine wla rfl rfl (q_move (v := p2) rfl rfl) ?_
      refine wla rfl rfl (q_len rfl T22.sl rfl (hp2.lift (Lift.ext e2 _))) ?_
      refine wla rfl rfl (q_gtI rfl rfl rfl) ?_
      refine wla rfl rfl (q_pick_f (v := (.bool ((decide (16 < (a2ys.length : Int)))))) rfl rfl rfl) ?_
      refine wlb rfl rfl (q_move (v := (.bool ((decide (16 < (a2ys.length : Int)))))) rfl rfl) (fun hb9 => ?_) (fun hb9 => ?_)
      · replace H := (if_pos (of_decide_eq_true hb9)).symm.trans H
        refine wlk rfl rfl ?_
        refine wlk rfl rfl ?_
        refine wlk rfl rfl ?_
        refine wla rfl rfl (q_pick_t (v := (.bool true)) rfl rfl rfl) ?_
        refine wl_nil ?_
        refine W_th ?_
        refine W_cond true rfl rfl (fun _ => ?_) (fun hb => by cases hb)
        refine W_seq ?_
        refine W_reg (by kernel_rfl) ?_
        obtain ⟨r10, hr10, H⟩ := Option.bind_eq_some_iff.1 H
        refine wls rfl rfl (stp_call (vs := []) Try.func24 rfl rfl rfl (ar0 ) (law30_lives_calls   r10 _  hr10) ?_)
        rintro _ w10 ⟨rfl, x10⟩
        refine ⟨_, rfl, ?_⟩
        have e11 := e2.trans x10
        refine wla rfl rfl (q_assign (v := (.bool r10)) rfl rfl) ?_
        refine wl_nil ?_
        refine W_th ?_
        refine W_ret ?_
        refine th_r ?_
        obtain rfl := Option.some.inj H
        refine rt1 (.bool r10) rfl rfl rfl rfl ?_
        exact ⟨rfl, e11⟩
      · replace H := (if_neg (of_decide_eq_false hb9)).symm.trans H
        refine wla rfl rfl (q_move (v := p3) rfl rfl) ?_
        refine wla rfl rfl (q_len rfl T22.sl rfl (hp3.lift (Lift.ext e2 _))) ?_
        refine wla rfl rfl (q_gtI rfl rfl rfl) ?_
        refine wla rfl rfl (q_pick_f (v := (.bool ((decide (100 < (a3zs.length : Int)))))) rfl rfl rfl) ?_
        refine wl_nil ?_
        refine W_th ?_
        refine W_cond _ rfl rfl (fun hb12 => ?_) (fun hb12 => ?_)
        · replace H := (if_pos (of_decide_eq_true hb12)).symm.trans H
          refine W_seq ?_
          refine W_reg (by kernel_rfl) ?_
          obtain ⟨r13, hr13, H⟩ := Option.bind_eq_some_iff.1 H
          refine wls rfl rfl (stp_call (vs := []) Try.func24 rfl rfl rfl (ar0 ) (law30_lives_calls   r13 _  hr13) ?_)
          rintro _ w13 ⟨rfl, x13⟩
          refine ⟨_, rfl, ?_⟩
          have e14 := e2.trans x13
          refine wla rfl rfl (q_assign (v := (.bool r13)) rfl rfl) ?_
          refine wl_nil ?_
          refine W_th ?_
          refine W_ret ?_
          refine th_r ?_
          obtain rfl := Option.some.inj H
          refine rt1 (.bool r13) rfl rfl rfl rfl ?_
          exact ⟨rfl, e14⟩
        · replace H := (if_neg (of_decide_eq_false hb12)).symm.trans H
          refine W_skip ?_
          refine W_th ?_
          refine W_seq ?_
          refine W_reg (by kernel_rfl) ?_
          obtain ⟨r15, hr15, H⟩ := Option.bind_eq_some_iff.1 H
          refine wls rfl rfl (stp_call (vs := []) Try.func12 rfl rfl rfl (ar0 ) (field_New_calls   r15 _ [] (Old.nil _)  hr15) ?_)
          rintro _ w15 ⟨v15, rfl, x15, i15_0⟩
          refine ⟨_, rfl, ?_⟩
          have e16 := e2.trans x15
          refine wla rfl rfl (q_assign (v := v15) rfl rfl) ?_
          refine wl_nil ?_
          refine W_th ?_
          refine W_seq ?_
          refine W_reg (by kernel_rfl) ?_
          refine wla rfl rfl (q_move (v := v15) rfl rfl) ?_
          refine wla rfl rfl (q_move (v := (i64 a0t)) rfl rfl) ?_
          refine wla rfl rfl (q_move (v := p1) rfl rfl) ?_
          refine wla rfl rfl (q_move (v := p2) rfl rfl) ?_
          obtain ⟨r17, hr17, H⟩ := Option.bind_eq_some_iff.1 H
          refine wls rfl rfl (stp_call (vs := [v15, (i64 a0t), p1, p2]) Try.func25 rfl rfl rfl (ar4 rfl rfl rfl rfl) (syndrome_Syndromes_calls r15 a0t a1xs a2ys v15 p1 p2 r17 _ (i15_0.lift (Lift.sub (fun _ _ => trivial))) (hp1.lift (Lift.ext e16 _)) (hp2.lift (Lift.ext e16 _)) hr17) ?_)
          rintro _ w17 ⟨v17_0, rfl, x17, n17_0, o17_0⟩
          refine ⟨_, rfl, ?_⟩
          have i17_0 : By w17 [] v17_0 r17.1 := OwK.slk (Sc.stab _) _ (OwK.scal o17_0 (v17_0 :: [])) (fun k hk => (Old.nil _) k (n17_0 k hk)) (fun _ h => h.2)
          replace i15_0 := i15_0.lift (Lift.ext x17 _)
          have e18 := e16.trans x17
          refine wla rfl rfl (q_move (v := (.tuple #[v17_0, (i64 r17.2)])) rfl rfl) ?_
          refine wla rfl rfl (q_extract rfl rfl rfl) ?_
          refine wla rfl rfl (q_extract rfl rfl rfl) ?_
          refine wla rfl rfl (q_assign (v := v17_0) rfl rfl) ?_
          refine wla rfl rfl (q_assign (v := (i64 r17.2)) rfl rfl) ?_
          refine wl_nil ?_
          refine W_th ?_
          refine W_seq ?_
          refine W_seq ?_
          refine W_reg (by kernel_rfl) ?_
          refine wla rfl rfl (q_move (v := (i64 r17.2)) rfl rfl) ?_
          refine wla rfl rfl (q_neI rfl rfl rfl) ?_
          refine wl_nil ?_
          refine W_th ?_
          refine W_cond _ rfl rfl (fun hb19 => ?_) (fun hb19 => ?_)
          · replace H := (if_neg (ndec_t hb19)).symm.trans H
            refine W_seq ?_
            refine W_reg (by kernel_rfl) ?_
            refine wla rfl rfl (q_move (v := v17_0) rfl rfl) ?_
            refine wla rfl rfl (q_len rfl T22.sl rfl i17_0) ?_
            refine wla rfl rfl (q_eqI rfl rfl rfl) ?_
            refine wla rfl rfl (q_assign (v := (.bool ((decide ((r17.1.length : Int) = 0))))) rfl rfl) ?_
            refine wl_nil ?_
            refine W_th ?_
            refine W_ret ?_
            refine th_r ?_
            obtain rfl := Option.some.inj H
            refine rt1 (.bool ((decide ((r17.1.length : Int) = 0)))) rfl rfl rfl rfl ?_
            exact ⟨rfl, e18⟩
          · replace H := (if_pos (ndec_f hb19)).symm.trans H
            refine W_skip ?_
            refine W_th ?_
            refine W_seq ?_
            refine W_reg (by kernel_rfl) ?_
            refine wla rfl rfl (q_move (v := p3) rfl rfl) ?_
            refine wla rfl rfl (q_move (v := p2) rfl rfl) ?_
            refine wla rfl rfl (q_len rfl T22.sl rfl (hp2.lift (Lift.ext e18 _))) ?_
            obtain ⟨r20, hr20, H⟩ := Option.bind_eq_some_iff.1 H
            refine wls rfl rfl (stp_call (vs := [p3, (i64 ((a2ys.length : Int)))]) Try.func32 rfl rfl rfl (ar2 rfl rfl) (law08_Made_calls a3zs (a2ys.length : Int) p3 r20 _ (hp3.lift (Lift.ext e18 _)) hr20) ?_)
            rintro _ w20 ⟨v20, rfl, x20, n20_0, o20_0⟩
            refine ⟨_, rfl, ?_⟩
            have i20_0 : By w20 [] v20 r20 := OwK.slk (Sc.stab _) _ (OwK.scal o20_0 (v20 :: [])) (fun k hk => (Old.nil _) k (n20_0 k hk)) (fun _ h => h.2)
            replace i15_0 := i15_0.lift (Lift.ext x20 _)
            replace i17_0 := i17_0.lift (Lift.ext x20 _)
            have e21 := e18.trans x20
            refine wla rfl rfl (q_assign (v := v20) rfl rfl) ?_
            refine wl_nil ?_
            refine W_th ?_
            refine W_seq ?_
            refine W_reg (by kernel_rfl) ?_
            refine wla rfl rfl (q_move (v := v15) rfl rfl) ?_
            refine wla rfl rfl (q_move (v := (i64 a0t)) rfl rfl) ?_
            refine wla rfl rfl (q_move (v := p1) rfl rfl) ?_
            refine wla rfl rfl (q_move (v := v20) rfl rfl) ?_
            obtain ⟨r22, hr22, H⟩ := Option.bind_eq_some_iff.1 H
            refine wls rfl rfl (stp_call (vs := [v15, (i64 a0t), p1, v20]) Try.func25 rfl rfl rfl (ar4 rfl rfl rfl rfl) (syndrome_Syndromes_calls r15 a0t a1xs r20 v15 p1 v20 r22 _ (i15_0.lift (Lift.sub (fun _ _ => trivial))) (hp1.lift (Lift.ext e21 _)) (i20_0.lift (Lift.sub (fun _ _ => trivial))) hr22) ?_)
            rintro _ w22 ⟨v22_0, rfl, x22, n22_0, o22_0⟩
            refine ⟨_, rfl, ?_⟩
            have i22_0 : By w22 [] v22_0 r22.1 := OwK.slk (Sc.stab _) _ (OwK.scal o22_0 (v22_0 :: [])) (fun k hk => (Old.nil _) k (n22_0 k hk)) (fun _ h => h.2)
            replace i15_0 := i15_0.lift (Lift.ext x22 _)
            replace i17_0 := i17_0.lift (Lift.ext x22 _)
            replace i20_0 := i20_0.lift (Lift.ext x22 _)
            have e23 := e21.trans x22
            refine wla rfl rfl (q_move (v := (.tuple #[v22_0, (i64 r22.2)])) rfl rfl) ?_
            refine wla rfl rfl (q_extract rfl rfl rfl) ?_
            refine wla rfl rfl (q_extract rfl rfl rfl) ?_
            refine wla rfl rfl (q_assign (v := v22_0) rfl rfl) ?_
            refine wla rfl rfl (q_assign (v := (i64 r22.2)) rfl rfl) ?_
            refine wl_nil ?_
            refine W_th ?_
            refine W_seq ?_
            refine W_reg (by kernel_rfl) ?_
            refine wla rfl rfl (q_move (v := v15) rfl rfl) ?_
            refine wla rfl rfl (q_move (v := (i64 a0t)) rfl rfl) ?_
            refine wla rfl rfl (q_move (v := p1) rfl rfl) ?_
            refine wla rfl rfl (q_move (v := p2) rfl rfl) ?_
            refine wla rfl rfl (q_move (v := v20) rfl rfl) ?_
            obtain ⟨r24, hr24, H⟩ := Option.bind_eq_some_iff.1 H
            refine wls rfl rfl (stp_call (vs := [p2, v20]) Try.func33 rfl rfl rfl (ar2 rfl rfl) (word_Xor_calls a2ys r20 p2 v20 r24 _ (hp2.lift (Lift.ext e23 _)) (i20_0.lift (Lift.sub (fun _ _ => trivial))) hr24) ?_)
            rintro _ w24 ⟨v24, rfl, x24, n24_0, o24_0⟩
            refine ⟨_, rfl, ?_⟩
            have i24_0 : By w24 [] v24 r24 := OwK.slk (Sc.stab _) _ (OwK.scal o24_0 (v24 :: [])) (fun k hk => (Old.nil _) k (n24_0 k hk)) (fun _ h => h.2)
            replace i15_0 := i15_0.lift (Lift.ext x24 _)
            replace i17_0 := i17_0.lift (Lift.ext x24 _)
            replace i20_0 := i20_0.lift (Lift.ext x24 _)
            replace i22_0 := i22_0.lift (Lift.ext x24 _)
            have e25 := e23.trans x24
            obtain ⟨r26, hr26, H⟩ := Option.bind_eq_some_iff.1 H
            refine wls rfl rfl (stp_call (vs := [v15, (i64 a0t), p1, v24]) Try.func25 rfl rfl rfl (ar4 rfl rfl rfl rfl) (syndrome_Syndromes_calls r15 a0t a1xs r24 v15 p1 v24 r26 _ (i15_0.lift (Lift.sub (fun _ _ => trivial))) (hp1.lift (Lift.ext e25 _)) (i24_0.lift (Lift.sub (fun _ _ => trivial))) hr26) ?_)
            rintro _ w26 ⟨v26_0, rfl, x26, n26_0, o26_0⟩
            refine ⟨_, rfl, ?_⟩
            have i26_0 : By w26 [] v26_0 r26.1 := OwK.slk (Sc.stab _) _ (OwK.scal o26_0 (v26_0 :: [])) (fun k hk => (Old.nil _) k (n26_0 k hk)) (fun _ h => h.2)
            replace i15_0 := i15_0.lift (Lift.ext x26 _)
            replace i17_0 := i17_0.lift (Lift.ext x26 _)
            replace i20_0 := i20_0.lift (Lift.ext x26 _)
            replace i22_0 := i22_0.lift (Lift.ext x26 _)
            replace i24_0 := i24_0.lift (Lift.ext x26 _)
            have e27 := e25.trans x26
            refine wla rfl rfl (q_move (v := (.tuple #[v26_0, (i64 r26.2)])) rfl rfl) ?_
            refine wla rfl rfl (q_extract rfl rfl rfl) ?_
            refine wla rfl rfl (q_extract rfl rfl rfl) ?_
            refine wla rfl rfl (q_assign (v := v26_0) rfl rfl) ?_
            refine wla rfl rfl (q_assign (v := (i64 r26.2)) rfl rfl) ?_
            refine wl_nil ?_
            refine W_th ?_
            refine W_seq ?_
            refine W_draw [8, 12] [(0, 0), (1, 0), (2, 0), (3, 0), (4, 0), (5, 0), (6, 0), (7, 0), (8, 1), (9, 0), (10, 0), (11, 2), (12, 1), (13, 0), (14, 0), (15, 0), (16, 0), (17, 0), (18, 0), (19, 0), (20, 0), (21, 0), (22, 0), (23, 0), (24, 0)] mixed (by kernel_rfl) (by kernel_rfl) (by kernel_rfl) (by kernel_rfl) ?_
            have x28 := Ext.drew w26
            replace i15_0 := i15_0.lift (Lift.ext x28 _)
            replace i17_0 := i17_0.lift (Lift.ext x28 _)
            replace i20_0 := i20_0.lift (Lift.ext x28 _)
            replace i22_0 := i22_0.lift (Lift.ext x28 _)
            replace i24_0 := i24_0.lift (Lift.ext x28 _)
            replace i26_0 := i26_0.lift (Lift.ext x28 _)
            have e29 := e27.trans x28
            refine wsa rfl rfl rfl (q_move (v := (i64 r22.2)) rfl rfl) ?_
            refine wsa rfl rfl rfl (q_eqI rfl rfl rfl) ?_
            refine wsb rfl rfl rfl (q_move (v := (.bool ((decide (r22.2 = 0))))) rfl rfl) (fun hb30 => ?_) (fun hb30 => ?_)
            · replace H := (if_pos (of_decide_eq_true hb30)).symm.trans H
              refine wsa rfl rfl rfl (q_move (v := (i64 r26.2)) rfl rfl) ?_
              refine wsa rfl rfl rfl (q_eqI rfl rfl rfl) ?_
              refine wsa rfl rfl rfl (q_pick_t (v := (.bool ((decide (r26.2 = 0))))) rfl rfl rfl) ?_
              refine wsb rfl rfl rfl (q_move (v := (.bool ((decide (r26.2 = 0))))) rfl rfl) (fun hb31 => ?_) (fun hb31 => ?_)
              · replace H := (if_pos (of_decide_eq_true hb31)).symm.trans H
                refine wsa rfl rfl rfl (q_move (v := v26_0) rfl rfl) ?_
                refine wsq rfl rfl rfl (q_str rfl T22 rfl rfl rfl i26_0) ?_
                refine wsa rfl rfl rfl (q_move (v := v17_0) rfl rfl) ?_
                refine wsa rfl rfl rfl (q_move (v := v22_0) rfl rfl) ?_
                obtain ⟨r32, hr32, H⟩ := Option.bind_eq_some_iff.1 H
                refine wss rfl rfl rfl (stp_call (vs := [v17_0, v22_0]) Try.func33 rfl rfl rfl (ar2 rfl rfl) (word_Xor_calls r17.1 r22.1 v17_0 v22_0 r32 _ (i17_0.lift (Lift.sub (fun _ _ => trivial))) (i22_0.lift (Lift.sub (fun _ _ => trivial))) hr32) ?_)
                rintro _ w32 ⟨v32, rfl, x32, n32_0, o32_0⟩
                refine ⟨_, rfl, x32, ?_⟩
                have i32_0 : By w32 [] v32 r32 := OwK.slk (Sc.stab _) _ (OwK.scal o32_0 (v32 :: [])) (fun k hk => (Old.nil _) k (n32_0 k hk)) (fun _ h => h.2)
                replace i15_0 := i15_0.lift (Lift.ext x32 _)
                replace i17_0 := i17_0.lift (Lift.ext x32 _)
                replace i20_0 := i20_0.lift (Lift.ext x32 _)
                replace i22_0 := i22_0.lift (Lift.ext x32 _)
                replace i24_0 := i24_0.lift (Lift.ext x32 _)
                replace i26_0 := i26_0.lift (Lift.ext x32 _)
                have e33 := e29.trans x32
                refine wsq rfl rfl rfl (q_str rfl T22 rfl rfl rfl i32_0) ?_
                refine wsa rfl rfl rfl (q_eqS rfl rfl rfl) ?_
                refine wsa rfl rfl rfl (q_pick_t (v := (.bool ((decide (r26.1 = r32))))) rfl rfl rfl) ?_
                refine wsb rfl rfl rfl (q_move (v := (.bool ((decide (r26.1 = r32))))) rfl rfl) (fun hb34 => ?_) (fun hb34 => ?_)
                · replace H := (if_pos (of_decide_eq_true hb34)).symm.trans H
                  refine wsa rfl rfl rfl (q_move (v := v17_0) rfl rfl) ?_
                  refine wsa rfl rfl rfl (q_len rfl T22.sl rfl i17_0) ?_
                  refine wsa rfl rfl rfl (q_move (v := p1) rfl rfl) ?_
                  refine wsa rfl rfl rfl (q_len rfl T22.sl rfl (hp1.lift (Lift.ext e33 _))) ?_
                  refine wsa rfl rfl rfl (q_move (v := (i64 a0t)) rfl rfl) ?_
                  refine wsa rfl rfl rfl (q_subI rfl rfl rfl) ?_
                  refine wsa rfl rfl rfl (q_eqI rfl rfl rfl) ?_
                  refine wsa rfl rfl rfl (q_pick_t (v := (.bool ((decide ((r17.1.length : Int) = (wI ((a1xs.length : Int) - a0t))))))) rfl rfl rfl) ?_
                  refine wsa rfl rfl rfl (q_assign (v := (.bool ((decide ((r17.1.length : Int) = (wI ((a1xs.length : Int) - a0t))))))) rfl rfl) ?_
                  refine ws_nil ?_
                  refine W_th ?_
                  refine W_ret ?_
                  obtain rfl := Option.some.inj H
                  refine rt1 (.bool ((decide ((r17.1.length : Int) = (wI ((a1xs.length : Int) - a0t)))))) rfl rfl rfl rfl ?_
                  exact ⟨rfl, e33⟩
                · replace H := (if_neg (of_decide_eq_false hb34)).symm.trans H
                  refine wsk rfl rfl rfl ?_
                  refine wsk rfl rfl rfl ?_
                  refine wsk rfl rfl rfl ?_
                  refine wsk rfl rfl rfl ?_
                  refine wsk rfl rfl rfl ?_
                  refine wsk rfl rfl rfl ?_
                  refine wsk rfl rfl rfl ?_
                  refine wsa rfl rfl rfl (q_pick_f (v := (.bool false)) rfl rfl rfl) ?_
                  refine wsa rfl rfl rfl (q_assign (v := (.bool false)) rfl rfl) ?_
                  refine ws_nil ?_
                  refine W_th ?_
                  refine W_ret ?_
                  obtain rfl := Option.some.inj H
                  refine rt1 (.bool false) rfl rfl rfl rfl ?_
                  exact ⟨rfl, e33⟩
              · replace H := (if_neg (of_decide_eq_false hb31)).symm.trans H
                refine wsk rfl rfl rfl ?_
                refine wsk rfl rfl rfl ?_
                refine wsk rfl rfl rfl ?_
                refine wsk rfl rfl rfl ?_
                refine wsk rfl rfl rfl ?_
                refine wsk rfl rfl rfl ?_
                refine wsk rfl rfl rfl ?_
                refine wsa rfl rfl rfl (q_pick_f (v := (.bool false)) rfl rfl rfl) ?_
                refine wsa rfl rfl rfl (q_move (v := (.bool false)) rfl rfl) ?_
                refine wsk rfl rfl rfl ?_
                refine wsk rfl rfl rfl ?_
                refine wsk rfl rfl rfl ?_
                refine wsk rfl rfl rfl ?_
                refine wsk rfl rfl rfl ?_
                refine wsk rfl rfl rfl ?_
                refine wsk rfl rfl rfl ?_
                refine wsa rfl rfl rfl (q_pick_f (v := (.bool false)) rfl rfl rfl) ?_
                refine wsa rfl rfl rfl (q_assign (v := (.bool false)) rfl rfl) ?_
                refine ws_nil ?_
                refine W_th ?_
                refine W_ret ?_
                obtain rfl := Option.some.inj H
                refine rt1 (.bool false) rfl rfl rfl rfl ?_
                exact ⟨rfl, e29⟩
            · replace H := (if_neg (of_decide_eq_false hb30)).symm.trans H
              refine wsk rfl rfl rfl ?_
              refine wsk rfl rfl rfl ?_
              refine wsa rfl rfl rfl (q_pick_f (v := (.bool false)) rfl rfl rfl) ?_
              refine wsa rfl rfl rfl (q_move (v := (.bool false)) rfl rfl) ?_
              refine wsk rfl rfl rfl ?_
              refine wsk rfl rfl rfl ?_
              refine wsk rfl rfl rfl ?_
              refine wsk rfl rfl rfl ?_
              refine wsk rfl rfl rfl ?_
              refine wsk rfl rfl rfl ?_
              refine wsk rfl rfl rfl ?_
              refine wsa rfl rfl rfl (q_pick_f (v := (.bool false)) rfl rfl rfl) ?_
              refine wsa rfl rfl rfl (q_move (v := (.bool false)) rfl rfl) ?_
              refine wsk rfl rfl rfl ?_
              refine wsk rfl rfl rfl ?_
              refine wsk rfl rfl rfl ?_
              refine wsk rfl rfl rfl ?_
              refine wsk rfl rfl rfl ?_
              refine wsk rfl rfl rfl ?_
              refine wsk rfl rfl rfl ?_
              refine wsa rfl rfl rfl (q_pick_f (v := (.bool false)) rfl rfl rfl) ?_
              refine wsa rfl rfl rfl (q_assign (v := (.bool false)) rfl rfl) ?_
              refine ws_nil ?_
              refine W_th ?_
              refine W_ret ?_
              obtain rfl := Option.some.inj H
              refine rt1 (.bool false) rfl rfl rfl rfl ?_
              exact ⟨rfl, e29⟩

end Gk

/- What the field's functions come to, in plain Lean. No condition but lengths. -/



set_option linter.unusedSimpArgs false
namespace Gk
open Gf
theorem idx_nat {α : Type} (l : List α) (n : Nat) : idx l (n : Int) = l[n]? := by simp [idx]
theorem idx_lg (a : UInt8) : idx lgT (a.toNat : Int) = some (lg a : Int) := by rw [idx_nat, lgT_get]
theorem idx_pw (n : Nat) (h : n < 510) : idx pwT (n : Int) = some (pw n) := by rw [idx_nat, pwT_get n h]
theorem Mul_eq (a b : UInt8) : field_Mul true a b = some (mul a b) := by
  unfold field_Mul
  rw [if_neg (by simp)]
  by_cases ha : a = 0
  · rw [if_pos ha, ha, zero_mul]
  · by_cases hb : b = 0
    · rw [if_neg ha, if_pos hb, hb, mul_zero]
    · have h1 := lg_lt a
      have h2 := lg_lt b
      have e : wI ((lg a : Int) + (lg b : Int)) = ((lg a + lg b : Nat) : Int) := by rw [wI_of (by omega) (by omega)]; omega
      rw [if_neg ha, if_neg hb]
      simp only [grd, idx_lg, Option.bind_some, e, idx_pw _ (show lg a + lg b < 510 by omega), mul_pw ha hb, if_true]
theorem Inv_eq (a : UInt8) : field_Inv true a = some (if a = 0 then (0, 7) else (inv a, 0)) := by
  unfold field_Inv
  rw [if_neg (by simp)]
  by_cases ha : a = 0
  · rw [if_pos ha, if_pos ha]
  · have h1 := lg_lt a
    have e : wI (255 - (lg a : Int)) = ((255 - lg a : Nat) : Int) := by rw [wI_of (by omega) (by omega)]; omega
    rw [if_neg ha, if_neg ha]
    simp only [grd, idx_lg, Option.bind_some, e, idx_pw _ (show 255 - lg a < 510 by omega), if_true, inv, if_neg ha]
theorem Div_eq (a b : UInt8) : field_Div true a b = some (if b = 0 then (0, 7) else (mul a (inv b), 0)) := by
  unfold field_Div
  simp only [Inv_eq, Option.bind_some, Mul_eq]
  by_cases hb : b = 0
  · simp [hb]
  · simp [hb]
/-- A power, of whatever whole number. -/
def powZ (a : UInt8) (n : Int) : UInt8 := if n = 0 then 1 else if a = 0 then 0 else pw (lg a * (n % 255).toNat)
end Gk

/- Rows of bytes, sums of rows, the document's inverses and powers, in plain Lean. No condition. -/

set_option linter.unusedSimpArgs false
set_option linter.unusedVariables false
namespace Gk
open Gf
theorem makeL_nat {α : Type} (n : Nat) (z : α) (h : n ≤ most) : makeL (n : Int) z = some (List.replicate n z) := by
  unfold makeL; rw [if_pos ⟨by omega, by omega⟩]; simp
theorem copyL_all {α : Type} (z : α) (a : List α) : copyL (List.replicate a.length z) 0 a = a := by
  unfold copyL; simp
/-- A row, and a number times another one added. -/
def sumL (a : List UInt8) (c : UInt8) (b : List UInt8) : List UInt8 := a.mapIdx fun j x => x ^^^ mul c (b.getD j 0)
def sumTo (a : List UInt8) (c : UInt8) (b : List UInt8) (i : Nat) : List UInt8 := a.mapIdx fun j x => if j < i then x ^^^ mul c (b.getD j 0) else x
theorem sumL_len (a : List UInt8) (c : UInt8) (b : List UInt8) : (sumL a c b).length = a.length := by simp [sumL]
theorem sumTo_len (a : List UInt8) (c : UInt8) (b : List UInt8) (i : Nat) : (sumTo a c b i).length = a.length := by simp [sumTo]
theorem sumTo_set (a : List UInt8) (c : UInt8) (b : List UInt8) (i : Nat) (x : UInt8) (h : a[i]? = some x) (y : UInt8) (hb : b[i]? = some y) : (sumTo a c b i).set i (x ^^^ mul c y) = sumTo a c b (i + 1) := by
  apply List.ext_getElem?
  intro j
  simp only [sumTo, List.getElem?_set, List.getElem?_mapIdx, List.length_mapIdx]
  have hi := (List.getElem?_eq_some_iff.1 h).1
  by_cases hj : i = j
  · subst hj
    simp [hi, List.getD, hb]
    rw [(List.getElem?_eq_some_iff.1 h).2]
  · rw [if_neg hj]
    have : j < i + 1 ↔ j < i := by omega
    simp [this]
theorem sumTo_get (a : List UInt8) (c : UInt8) (b : List UInt8) (i : Nat) (x : UInt8) (h : a[i]? = some x) : (sumTo a c b i)[i]? = some x := by
  simp [sumTo, List.getElem?_mapIdx, h]
theorem sumTo_end (a : List UInt8) (c : UInt8) (b : List UInt8) (i : Nat) (h : b.length ≤ i ∨ a.length ≤ i) : sumTo a c b i = sumL a c b := by
  apply List.ext_getElem?
  intro j
  simp only [sumTo, sumL, List.getElem?_mapIdx]
  by_cases hj : j < i
  · simp [hj]
  · rcases h with h | h
    · have : b.getD j 0 = 0 := by simp [List.getD, List.getElem?_eq_none (show b.length ≤ j by omega)]
      simp only [hj, this, mul_zero, xor_zero, if_false]
    · simp [List.getElem?_eq_none (show a.length ≤ j by omega)]
theorem minI (a b : Nat) : (if (b : Int) < (a : Int) then (b : Int) else (a : Int)) = ((min a b : Nat) : Int) := by split <;> omega
theorem wI_succ (i : Nat) (h : i < 9223372036854775807) : wI ((i : Int) + 1) = ((i + 1 : Nat) : Int) := by rw [wI_of (by omega) (by omega)]; omega
theorem most_lt : most < 9223372036854775807 := by decide
theorem Sum_eq (a : List UInt8) (c : UInt8) (b : List UInt8) (h : a.length ≤ most) : field_Sum true a c b = some (sumL a c b) := by
  unfold field_Sum
  rw [if_neg (by simp), makeL_nat _ _ h]
  simp only [Option.bind_some, minI, copyL_all]
  have hm := most_lt
  refine bind_of (x := sumL a c b) (iterC_count (fun i => (sumTo a c b i, (i : Int))) (min a.length b.length) (sumL a c b) ?_ ?_ ?_) rfl
  · refine Prod.ext ?_ rfl
    apply List.ext_getElem?
    intro j
    simp [sumTo, List.getElem?_mapIdx]
  · intro i hi
    have h1 : i < a.length := by omega
    have h2 : i < b.length := by omega
    have e1 : a[i]? = some a[i] := by simp [h1]
    have e2 : b[i]? = some b[i] := by simp [h2]
    rw [if_pos (by omega)]
    simp only [idx_nat, sumTo_get a c b i _ e1, e2, Option.bind_some, Mul_eq, wI_succ i (by omega), Int.toNat_natCast]
    rw [sumTo_set a c b i _ e1 _ e2]
  · rw [if_neg (by omega)]
    simp only [sumTo_end a c b _ (show b.length ≤ min a.length b.length ∨ a.length ≤ min a.length b.length by omega)]
theorem Scale_eq (c : UInt8) (b : List UInt8) (h : b.length ≤ most) : field_Scale true c b = some (b.map (mul c)) := by
  unfold field_Scale
  rw [if_neg (by simp), makeL_nat _ _ h]
  simp only [Option.bind_some]
  rw [Sum_eq _ _ _ (by simpa using h)]
  simp only [Option.bind_some, Option.some.injEq]
  apply List.ext_getElem?
  intro j
  simp only [sumL, List.getElem?_mapIdx, List.getElem?_map, List.getElem?_replicate]
  by_cases hj : j < b.length
  · simp [hj, zero_xor]
  · simp [hj, List.getElem?_eq_none (show b.length ≤ j by omega)]

theorem Add_eq (a b : UInt8) : field_Add a b = some (a ^^^ b) := rfl
theorem refInv_eq (a : UInt8) : ref02_Inv a = some (inv a) := by
  unfold ref02_Inv
  simp only [refMul_eq, Option.bind_some]
  have e : ∀ k : Nat, k < 256 → UInt8.ofInt (k : Int) = UInt8.ofNat k := by
    intro k hk
    have : (UInt8.ofNat k).toNat = k := by simp; omega
    rw [← this, ofInt_nat, this]
  by_cases ha : a = 0
  · refine bind_of (x := (Sum.inl () : Unit ⊕ UInt8)) (iterC_count (fun i => (1 + (i : Int))) 255 (Sum.inl ()) (by simp) ?_ ?_) ?_
    · intro i hi
      rw [if_pos (by omega)]
      rw [ha]
      simp only [zero_mul]
      rw [if_neg (by decide)]
      have : wI (1 + (i : Int) + 1) = 1 + ((i + 1 : Nat) : Int) := by rw [wI_of (by omega) (by omega)]; omega
      rw [this]
    · rw [if_neg (by omega)]
    · simp [ha, inv_zero]
  · have hn := inv_ne ha
    have hlt := (inv a).toNat_lt
    have hpos : 0 < (inv a).toNat := Nat.pos_of_ne_zero (fun e => hn (UInt8.toNat_inj.1 (by simpa using e)))
    refine bind_of (x := (Sum.inr (inv a) : Unit ⊕ UInt8)) (iterC_count (fun i => (1 + (i : Int))) ((inv a).toNat - 1) (Sum.inr (inv a)) (by simp) ?_ ?_) rfl
    · intro i hi
      rw [if_pos (by omega)]
      have e1 : (1 + (i : Int)) = ((i + 1 : Nat) : Int) := by omega
      have hne : mul a (UInt8.ofInt (1 + (i : Int))) ≠ 1 := by
        intro h
        have h2 := inv_uniq h
        rw [e1, e _ (by omega)] at h2
        have h3 := congrArg UInt8.toNat h2
        simp at h3
        omega
      rw [if_neg hne]
      have : wI (1 + (i : Int) + 1) = 1 + ((i + 1 : Nat) : Int) := by rw [wI_of (by omega) (by omega)]; omega
      rw [this]
    · rw [if_pos (by omega)]
      have e1 : (1 + (((inv a).toNat - 1 : Nat) : Int)) = ((inv a).toNat : Int) := by omega
      rw [e1, ofInt_nat, mul_inv ha, if_pos rfl]
theorem refPow_loop (a : UInt8) (n : Int) (m : Nat) (h : remI n 255 = some (m : Int)) (hm : m < 255) :
    iterC (fun s9 : UInt8 × Int => ((remI n 255).bind fun c11 => (if s9.2 < c11 then ((ref02_Mul s9.1 a).bind fun r13 => some (.inl (r13, (wI (s9.2 + 1))))) else some (.inr s9.1)))) ((1 : UInt8), 0) = some (pow a m) := by
  simp only [h, Option.bind_some, refMul_eq]
  refine iterC_count (fun i => (pow a i, (i : Int))) m _ rfl ?_ ?_
  · intro i hi
    rw [if_pos (by omega), wI_succ i (by omega)]
    rfl
  · rw [if_neg (by omega)]
theorem pow_inv {a : UInt8} (ha : a ≠ 0) (m : Nat) (hm : m < 255) : pow (inv a) m = pw (lg a * ((255 - m) % 255)) := by
  have h1 := lg_lt a
  have e : inv a = pw (255 - lg a) := by simp [inv, ha]
  rw [e, pow_pw]
  have hz : mul (pw (lg a * m)) (pw ((255 - lg a) * m)) = 1 := by
    rw [← pw_add, ← Nat.add_mul, show lg a + (255 - lg a) = 255 by omega, ← pw_mod, Nat.mul_mod_right]; rfl
  have hz2 : mul (pw (lg a * m)) (pw (lg a * ((255 - m) % 255))) = 1 := by
    rw [← pw_add, ← Nat.mul_add, ← pw_mod, Nat.mul_mod]
    have : (m + (255 - m) % 255) % 255 = 0 := by omega
    rw [this]; simp [pw]
  exact mul_cancel (pw_ne _) (hz.trans hz2.symm)
theorem refPow_eq (a : UInt8) (n : Int) : ref02_Pow a n = some (powZ a n) := by
  unfold ref02_Pow powZ
  by_cases hn : n = 0
  · simp [hn]
  · by_cases ha : a = 0
    · simp [hn, ha]
    · rw [if_neg hn, if_neg ha, if_neg hn, if_neg ha]
      have hq := Int.mul_tdiv_add_tmod n 255
      have b1 : -255 < n.tmod 255 := by have := Int.lt_tmod_of_pos n (b := 255) (by decide); omega
      have b2 : n.tmod 255 < 255 := Int.tmod_lt_of_pos n (by decide)
      by_cases h0 : n < 0
      · have hs : n.tmod 255 ≤ 0 := by
          have h := Int.neg_tmod (-n) 255
          rw [Int.neg_neg] at h
          have := Int.tmod_nonneg 255 (show 0 ≤ -n by omega)
          omega
        obtain ⟨m, hm⟩ : ∃ m : Nat, n.tmod 255 = -(m : Int) := ⟨(-(n.tmod 255)).toNat, by omega⟩
        have e2 : wI (0 - n.tmod 255) = (m : Int) := by rw [wI_of (by omega) (by omega)]; omega
        have e3 : remI n 255 = some (n.tmod 255) := by simp [remI]
        rw [if_pos h0]
        simp only [refInv_eq, Option.bind_some, e3, e2]
        have e4 := remI_nat m 255 (by decide)
        rw [Nat.mod_eq_of_lt (by omega)] at e4
        rw [refPow_loop (inv a) m m e4 (by omega)]
        simp only [Option.bind_some, Option.some.injEq]
        rw [pow_inv ha m (by omega)]
        congr 2
        omega
      · obtain ⟨k, rfl⟩ := Int.eq_ofNat_of_zero_le (show 0 ≤ n by omega)
        rw [if_neg h0]
        simp only [Option.bind_some]
        rw [refPow_loop a _ (k % 255) (remI_nat k 255 (by decide)) (by omega)]
        simp only [Option.bind_some, Option.some.injEq]
        have : pow a (k % 255) = pw (lg a * (k % 255)) := by rw [← pow_pw, pw_lg ha]
        rw [this]
        congr 2

theorem lg_mul {a b : UInt8} (ha : a ≠ 0) (hb : b ≠ 0) : lg (mul a b) = (lg a + lg b) % 255 := by rw [← mul_pw ha hb, lg_pw]
theorem appL_nil {α : Type} (a : List α) (h : a.length ≤ most) : appL [] a = some a := by
  unfold appL; rw [if_pos (by simpa using h)]; simp
end Gk

/- Polynomials over GF(256), as lists of numbers, the lowest first. Plain. No condition. -/

set_option linter.unusedSimpArgs false
namespace Gf

/-- The number at a place. -/
def co (p : List UInt8) (i : Nat) : UInt8 := p.getD i 0
theorem co_nil (i : Nat) : co [] i = 0 := by simp [co]
theorem co_zero (c : UInt8) (p : List UInt8) : co (c :: p) 0 = c := rfl
theorem co_succ (c : UInt8) (p : List UInt8) (i : Nat) : co (c :: p) (i + 1) = co p i := by simp [co]
theorem co_ge {p : List UInt8} {i : Nat} (h : p.length ≤ i) : co p i = 0 := by simp [co, List.getD_eq_getElem?_getD, List.getElem?_eq_none h]
theorem co_lt {p : List UInt8} {i : Nat} (h : i < p.length) : co p i = p[i] := by simp [co, List.getD_eq_getElem?_getD, h]
theorem co_get {p : List UInt8} {i : Nat} (h : i < p.length) : p[i]? = some (co p i) := by rw [co_lt h]; simp [h]
theorem co_rep (n i : Nat) : co (List.replicate n 0) i = 0 := by
  simp only [co, List.getD_eq_getElem?_getD, List.getElem?_replicate]; split <;> rfl
theorem co_map (c : UInt8) (p : List UInt8) (i : Nat) : co (p.map (mul c)) i = mul c (co p i) := by
  simp only [co, List.getD_eq_getElem?_getD, List.getElem?_map]
  cases p[i]? <;> simp [mul_zero]
theorem co_set {p : List UInt8} {j : Nat} (h : j < p.length) (c : UInt8) (i : Nat) : co (p.set j c) i = if i = j then c else co p i := by
  simp only [co, List.getD_eq_getElem?_getD, List.getElem?_set]
  by_cases hij : j = i
  · subst hij; simp [h]
  · simp [hij, Ne.symm hij]
/-- The same numbers everywhere. -/
def Sim (p q : List UInt8) : Prop := ∀ i, co p i = co q i
theorem Sim.refl (p : List UInt8) : Sim p p := fun _ => rfl
theorem Sim.symm {p q : List UInt8} (h : Sim p q) : Sim q p := fun i => (h i).symm
theorem Sim.trans {p q r : List UInt8} (h : Sim p q) (k : Sim q r) : Sim p r := fun i => (h i).trans (k i)

/-! ### Without noughts at the end -/
def trim : List UInt8 → List UInt8
  | [] => []
  | c :: p => if trim p = [] ∧ c = 0 then [] else c :: trim p
theorem co_trim : ∀ (p : List UInt8) (i : Nat), co (trim p) i = co p i
  | [], i => rfl
  | c :: p, i => by
    unfold trim
    split
    · rename_i h
      rw [co_nil]
      cases i with
      | zero => rw [co_zero, h.2]
      | succ i => rw [co_succ, ← co_trim p i, h.1, co_nil]
    · cases i with
      | zero => rfl
      | succ i => rw [co_succ, co_succ, co_trim p i]
theorem trim_sim (p : List UInt8) : Sim (trim p) p := co_trim p
theorem trim_zero : ∀ (p : List UInt8), (∀ i, co p i = 0) → trim p = []
  | [], _ => rfl
  | c :: p, h => by
    unfold trim
    rw [if_pos ⟨trim_zero p (fun i => by rw [← co_succ c p i]; exact h (i + 1)), by rw [← co_zero c p]; exact h 0⟩]
theorem trim_ext : ∀ (p q : List UInt8), Sim p q → trim p = trim q
  | [], q, h => (trim_zero q (fun i => by rw [← h i, co_nil])).symm
  | c :: p, [], h => trim_zero (c :: p) (fun i => by rw [h i, co_nil])
  | c :: p, d :: q, h => by
    have h0 : c = d := by have := h 0; rwa [co_zero, co_zero] at this
    have h1 : trim p = trim q := trim_ext p q (fun i => by have := h (i + 1); rwa [co_succ, co_succ] at this)
    unfold trim
    rw [h0, h1]
theorem trim_trim (p : List UInt8) : trim (trim p) = trim p := trim_ext _ _ (trim_sim p)
theorem trim_le : ∀ (p : List UInt8), (trim p).length ≤ p.length
  | [] => Nat.le_refl _
  | c :: p => by
    unfold trim
    split
    · exact Nat.zero_le _
    · have := trim_le p; simp only [List.length_cons]; omega
theorem trim_last : ∀ (p : List UInt8), trim p ≠ [] → co p ((trim p).length - 1) ≠ 0
  | [], h => absurd rfl h
  | c :: p, h => by
    unfold trim at h ⊢
    split
    · rename_i h'; rw [if_pos h'] at h; exact absurd rfl h
    · rename_i h'
      simp only [List.length_cons, Nat.add_sub_cancel]
      cases ht : trim p with
      | nil =>
        rw [List.length_nil, co_zero]
        exact fun e => h' ⟨ht, e⟩
      | cons d q =>
        have := trim_last p (by rw [ht]; simp)
        rw [ht] at this
        simp only [List.length_cons, Nat.add_sub_cancel] at this ⊢
        rwa [co_succ]
theorem trim_nil {p : List UInt8} (h : trim p = []) (i : Nat) : co p i = 0 := by rw [← co_trim, h, co_nil]
/-- What is above the degree is 0. -/
theorem trim_bound (p : List UInt8) (n : Nat) : (trim p).length ≤ n ↔ ∀ i, n ≤ i → co p i = 0 := by
  constructor
  · intro h i hi
    rw [← co_trim]; exact co_ge (Nat.le_trans h hi)
  · intro h
    refine Nat.le_of_not_lt fun hlt => ?_
    have hne : trim p ≠ [] := fun e => by rw [e] at hlt; simp at hlt
    exact trim_last p hne (h _ (by omega))
theorem trim_take : ∀ (p : List UInt8), trim p = p.take (trim p).length
  | [] => rfl
  | c :: p => by
    unfold trim
    split
    · rfl
    · simp only [List.length_cons, List.take_succ_cons]
      rw [← trim_take p]
theorem trim_id {p : List UInt8} (h : p ≠ [] → co p (p.length - 1) ≠ 0) : trim p = p := by
  by_cases hp : p = []
  · rw [hp]; rfl
  · have h1 : p.length ≤ (trim p).length := Nat.le_of_not_lt fun hlt => by
      have hpos := List.length_pos_iff.2 hp
      exact h hp ((trim_bound p (p.length - 1)).1 (by omega) _ (Nat.le_refl _))
    rw [trim_take p, List.take_of_length_le h1]
theorem sim_of_trim {p q : List UInt8} (h : trim p = trim q) : Sim p q := (trim_sim p).symm.trans (h ▸ trim_sim q)

/-! ### Values -/
def evp : List UInt8 → UInt8 → UInt8
  | [], _ => 0
  | c :: p, x => c ^^^ mul (evp p x) x
theorem ev_zero : ∀ (p : List UInt8) (x : UInt8), (∀ i, co p i = 0) → evp p x = 0
  | [], _, _ => rfl
  | c :: p, x, h => by
    have h0 : c = 0 := by rw [← co_zero c p]; exact h 0
    unfold evp
    rw [h0, ev_zero p x (fun i => by rw [← co_succ c p i]; exact h (i + 1)), zero_mul, zero_xor]
theorem ev_sim : ∀ (p q : List UInt8) (x : UInt8), Sim p q → evp p x = evp q x
  | [], q, x, h => (ev_zero q x (fun i => by rw [← h i, co_nil])).symm
  | c :: p, [], x, h => ev_zero (c :: p) x (fun i => by rw [h i, co_nil])
  | c :: p, d :: q, x, h => by
    have h0 : c = d := by have := h 0; rwa [co_zero, co_zero] at this
    unfold evp
    rw [h0, ev_sim p q x (fun i => by have := h (i + 1); rwa [co_succ, co_succ] at this)]
theorem ev_trim (p : List UInt8) (x : UInt8) : evp (trim p) x = evp p x := ev_sim _ _ x (trim_sim p)

/-! ### Sums and products -/
def pplus : List UInt8 → List UInt8 → List UInt8
  | [], q => q
  | p, [] => p
  | a :: p, b :: q => (a ^^^ b) :: pplus p q
theorem pplus_nil (p : List UInt8) : pplus p [] = p := by cases p <;> rfl
theorem co_pplus : ∀ (p q : List UInt8) (i : Nat), co (pplus p q) i = co p i ^^^ co q i
  | [], q, i => by rw [co_nil, zero_xor]; rfl
  | a :: p, [], i => by rw [co_nil, xor_zero]; rfl
  | a :: p, b :: q, 0 => rfl
  | a :: p, b :: q, i + 1 => by
    show co ((a ^^^ b) :: pplus p q) (i + 1) = _
    rw [co_succ, co_succ, co_succ]; exact co_pplus p q i
theorem pplus_len : ∀ (p q : List UInt8), (pplus p q).length = max p.length q.length
  | [], q => by simp [pplus]
  | a :: p, [] => by simp [pplus]
  | a :: p, b :: q => by simp only [pplus, List.length_cons, pplus_len p q]; omega
theorem ev_pplus : ∀ (p q : List UInt8) (x : UInt8), evp (pplus p q) x = evp p x ^^^ evp q x
  | [], q, x => by show evp q x = 0 ^^^ evp q x; rw [zero_xor]
  | a :: p, [], x => by show evp (a :: p) x = evp (a :: p) x ^^^ 0; rw [xor_zero]
  | a :: p, b :: q, x => by
    show (a ^^^ b) ^^^ mul (evp (pplus p q) x) x = (a ^^^ mul (evp p x) x) ^^^ (b ^^^ mul (evp q x) x)
    rw [ev_pplus p q x, add_mul, xor_xor_swap]
theorem ev_map (c : UInt8) : ∀ (p : List UInt8) (x : UInt8), evp (p.map (mul c)) x = mul c (evp p x)
  | [], x => (mul_zero c).symm
  | a :: p, x => by
    show mul c a ^^^ mul (evp (p.map (mul c)) x) x = mul c (a ^^^ mul (evp p x) x)
    rw [ev_map c p x, mul_add, mul_assoc]
def pmul : List UInt8 → List UInt8 → List UInt8
  | [], _ => []
  | c :: p, q => pplus (q.map (mul c)) (0 :: pmul p q)
theorem co_pmul_zero (c : UInt8) (p q : List UInt8) : co (pmul (c :: p) q) 0 = mul c (co q 0) := by
  unfold pmul; rw [co_pplus, co_map, co_zero, xor_zero]
theorem co_pmul_succ (c : UInt8) (p q : List UInt8) (i : Nat) : co (pmul (c :: p) q) (i + 1) = mul c (co q (i + 1)) ^^^ co (pmul p q) i := by
  show co (pplus (q.map (mul c)) (0 :: pmul p q)) (i + 1) = _
  rw [co_pplus, co_map, co_succ]
theorem pmul_len : ∀ (p q : List UInt8), (pmul p q).length ≤ p.length + q.length
  | [], q => by simp [pmul]
  | c :: p, q => by
    have := pmul_len p q
    simp only [pmul, pplus_len, List.length_map, List.length_cons]; omega
theorem ev_pmul : ∀ (p q : List UInt8) (x : UInt8), evp (pmul p q) x = mul (evp p x) (evp q x)
  | [], q, x => (zero_mul _).symm
  | c :: p, q, x => by
    show evp (pplus (q.map (mul c)) (0 :: pmul p q)) x = mul (c ^^^ mul (evp p x) x) (evp q x)
    rw [ev_pplus, ev_map, add_mul]
    show mul c (evp q x) ^^^ (0 ^^^ mul (evp (pmul p q) x) x) = _
    rw [zero_xor, ev_pmul p q x, mul_assoc, mul_assoc, mul_comm (evp q x) x]
/-- One number more on top. -/
theorem co_pmul_snoc : ∀ (p : List UInt8) (c : UInt8) (q : List UInt8) (i : Nat), co (pmul (p ++ [c]) q) i = co (pmul p q) i ^^^ (if i < p.length then 0 else mul c (co q (i - p.length)))
  | [], c, q, i => by
    cases i with
    | zero => rw [List.nil_append, co_pmul_zero]; simp [pmul, co_nil, zero_xor]
    | succ i => rw [List.nil_append, co_pmul_succ]; simp [pmul, co_nil, zero_xor, xor_zero]
  | a :: p, c, q, i => by
    cases i with
    | zero => rw [List.cons_append, co_pmul_zero, co_pmul_zero]; simp [xor_zero]
    | succ i =>
      rw [List.cons_append, co_pmul_succ, co_pmul_succ, co_pmul_snoc p c q i, xor_assoc]
      simp only [List.length_cons, Nat.add_lt_add_iff_right, Nat.add_sub_add_right]
/-- A number is set where there was 0. -/
theorem co_pmul_set : ∀ (p : List UInt8) (j : Nat) (c : UInt8) (q : List UInt8) (i : Nat), j < p.length → co p j = 0 → co (pmul (p.set j c) q) i = co (pmul p q) i ^^^ (if i < j then 0 else mul c (co q (i - j)))
  | [], j, c, q, i, h, _ => by simp at h
  | a :: p, 0, c, q, i, _, h0 => by
    rw [co_zero] at h0; subst h0
    rw [List.set_cons_zero]
    cases i with
    | zero => rw [co_pmul_zero, co_pmul_zero, zero_mul, zero_xor]; simp
    | succ i => rw [co_pmul_succ, co_pmul_succ, zero_mul, zero_xor, xor_comm]; simp
  | a :: p, j + 1, c, q, i, h, h0 => by
    rw [co_succ] at h0
    rw [List.set_cons_succ]
    cases i with
    | zero => rw [co_pmul_zero, co_pmul_zero]; simp [xor_zero]
    | succ i =>
      rw [co_pmul_succ, co_pmul_succ, co_pmul_set p j c q i (by simpa using h) h0, xor_assoc]
      simp only [Nat.add_lt_add_iff_right, Nat.add_sub_add_right]
theorem pmul_simL : ∀ (p p' q : List UInt8), Sim p p' → Sim (pmul p q) (pmul p' q)
  | [], [], q, _ => Sim.refl _
  | [], d :: p', q, h => by
    have h0 : d = 0 := by have := h 0; rw [co_nil, co_zero] at this; exact this.symm
    have h1 := pmul_simL [] p' q (fun i => by have := h (i + 1); rwa [co_nil, co_succ] at this)
    intro i
    cases i with
    | zero => rw [co_pmul_zero, h0, zero_mul]; rfl
    | succ i => rw [co_pmul_succ, h0, zero_mul, zero_xor, ← h1 i]; rfl
  | c :: p, [], q, h => by
    have h0 : c = 0 := by have := h 0; rwa [co_nil, co_zero] at this
    have h1 := pmul_simL p [] q (fun i => by have := h (i + 1); rwa [co_nil, co_succ] at this)
    intro i
    cases i with
    | zero => rw [co_pmul_zero, h0, zero_mul]; rfl
    | succ i => rw [co_pmul_succ, h0, zero_mul, zero_xor, h1 i]; rfl
  | c :: p, d :: p', q, h => by
    have h0 : c = d := by have := h 0; rwa [co_zero, co_zero] at this
    have h1 := pmul_simL p p' q (fun i => by have := h (i + 1); rwa [co_succ, co_succ] at this)
    intro i
    cases i with
    | zero => rw [co_pmul_zero, co_pmul_zero, h0]
    | succ i => rw [co_pmul_succ, co_pmul_succ, h0, h1 i]
theorem pmul_simR : ∀ (p q q' : List UInt8), Sim q q' → Sim (pmul p q) (pmul p q')
  | [], q, q', _ => Sim.refl _
  | c :: p, q, q', h => by
    have h1 := pmul_simR p q q' h
    intro i
    cases i with
    | zero => rw [co_pmul_zero, co_pmul_zero, h 0]
    | succ i => rw [co_pmul_succ, co_pmul_succ, h (i + 1), h1 i]
theorem pmul_sim {p p' q q' : List UInt8} (h : Sim p p') (k : Sim q q') : Sim (pmul p q) (pmul p' q') := (pmul_simL p p' q h).trans (pmul_simR p' q q' k)
theorem pplus_sim {p p' q q' : List UInt8} (h : Sim p p') (k : Sim q q') : Sim (pplus p q) (pplus p' q') := fun i => by rw [co_pplus, co_pplus, h i, k i]
theorem pplus_comm (p q : List UInt8) : Sim (pplus p q) (pplus q p) := fun i => by rw [co_pplus, co_pplus, xor_comm]
/-- Products go through sums. -/
theorem pmul_addL : ∀ (p q o : List UInt8), Sim (pmul (pplus p q) o) (pplus (pmul p o) (pmul q o))
  | [], q, o => by
    intro i; rw [co_pplus]
    show co (pmul q o) i = co [] i ^^^ co (pmul q o) i
    rw [co_nil, zero_xor]
  | a :: p, [], o => by
    intro i; rw [co_pplus]
    show co (pmul (a :: p) o) i = co (pmul (a :: p) o) i ^^^ co [] i
    rw [co_nil, xor_zero]
  | a :: p, b :: q, o => by
    have h1 := pmul_addL p q o
    intro i
    rw [co_pplus]
    show co (pmul ((a ^^^ b) :: pplus p q) o) i = _
    cases i with
    | zero => rw [co_pmul_zero, co_pmul_zero, co_pmul_zero, add_mul]
    | succ i => rw [co_pmul_succ, co_pmul_succ, co_pmul_succ, h1 i, co_pplus, add_mul, xor_xor_swap]
/-- The number on top of a product. -/
theorem co_pmul_top : ∀ (p q : List UInt8) (m : Nat), p ≠ [] → (∀ i, m < i → co q i = 0) → co (pmul p q) (p.length - 1 + m) = mul (co p (p.length - 1)) (co q m)
  | [], q, m, h, _ => absurd rfl h
  | [c], q, m, _, hq => by
    simp only [List.length_cons, List.length_nil, Nat.zero_add, Nat.sub_self, co_zero]
    cases m with
    | zero => rw [co_pmul_zero]
    | succ m => rw [co_pmul_succ]; simp [pmul, co_nil, xor_zero]
  | c :: d :: p, q, m, _, hq => by
    have h1 := co_pmul_top (d :: p) q m (by simp) hq
    simp only [List.length_cons, Nat.add_sub_cancel] at h1 ⊢
    rw [show p.length + 1 + m = (p.length + m) + 1 by omega, co_pmul_succ, hq (p.length + m + 1) (by omega), mul_zero, zero_xor, co_succ]
    exact h1
/-- A product of what has no noughts at its end has none either. -/
theorem pmul_trim_len {p q : List UInt8} (hp : trim p = p) (hq : trim q = q) (hp0 : p ≠ []) (hq0 : q ≠ []) : (trim (pmul p q)).length = p.length + q.length - 1 := by
  have lp := List.length_pos_iff.2 hp0
  have lq := List.length_pos_iff.2 hq0
  have t1 : co p (p.length - 1) ≠ 0 := by have := trim_last p (by rw [hp]; exact hp0); rwa [hp] at this
  have t2 : co q (q.length - 1) ≠ 0 := by have := trim_last q (by rw [hq]; exact hq0); rwa [hq] at this
  have top := co_pmul_top p q (q.length - 1) hp0 (fun i hi => co_ge (by omega))
  have hle : (trim (pmul p q)).length ≤ p.length + q.length - 1 := by
    refine (trim_bound _ _).2 fun i hi => ?_
    exact go p q i (by omega)
  refine Nat.le_antisymm hle (Nat.le_of_not_lt fun hlt => ?_)
  have := (trim_bound (pmul p q) (p.length + q.length - 2)).1 (by omega) (p.length - 1 + (q.length - 1)) (by omega)
  rw [top] at this
  exact mul_ne t1 t2 this
where
  go : ∀ (p q : List UInt8) (i : Nat), p.length + q.length ≤ i + 1 → co (pmul p q) i = 0
  | [], q, i, _ => co_nil i
  | c :: p, q, i, h => by
    simp only [List.length_cons] at h
    cases i with
    | zero => rw [co_pmul_zero, co_ge (by omega), mul_zero]
    | succ i => rw [co_pmul_succ, co_ge (by omega), mul_zero, zero_xor]; exact go p q i (by omega)
theorem co_pmul_ge {p q : List UInt8} {i : Nat} (h : p.length + q.length ≤ i + 1) : co (pmul p q) i = 0 := pmul_trim_len.go p q i h
theorem pmul_nilR (p : List UInt8) : Sim (pmul p []) [] := by
  intro i
  induction p generalizing i with
  | nil => rfl
  | cons c p ih =>
    rw [co_nil]
    cases i with
    | zero => rw [co_pmul_zero, co_nil, mul_zero]
    | succ i => rw [co_pmul_succ, co_nil, mul_zero, zero_xor, ih i, co_nil]
end Gf

/- Interpolation over GF(256): roots, Lagrange's and Newton's way. Plain. No condition. -/

set_option linter.unusedSimpArgs false
set_option linter.unusedVariables false
namespace Gf

/-! ### Degrees -/
/-- How many numbers a polynomial has, without noughts at the end. -/
def dg (p : List UInt8) : Nat := (trim p).length
theorem dg_le {p : List UInt8} {n : Nat} : dg p ≤ n ↔ ∀ i, n ≤ i → co p i = 0 := trim_bound p n
theorem dg_len (p : List UInt8) : dg p ≤ p.length := trim_le p
theorem dg_sim {p q : List UInt8} (h : Sim p q) : dg p = dg q := congrArg List.length (trim_ext _ _ h)
theorem dg_pplus {p q : List UInt8} {n : Nat} (hp : dg p ≤ n) (hq : dg q ≤ n) : dg (pplus p q) ≤ n :=
  dg_le.2 fun i hi => by rw [co_pplus, dg_le.1 hp i hi, dg_le.1 hq i hi, xor_zero]
theorem dg_map {p : List UInt8} {n : Nat} (c : UInt8) (hp : dg p ≤ n) : dg (p.map (mul c)) ≤ n :=
  dg_le.2 fun i hi => by rw [co_map, dg_le.1 hp i hi, mul_zero]
theorem dg_pmul {p q : List UInt8} {a b : Nat} (hp : dg p ≤ a) (hq : dg q ≤ b) : dg (pmul p q) ≤ a + b - 1 :=
  dg_le.2 fun i hi => by
    rw [← pmul_sim (trim_sim p) (trim_sim q) i]
    exact co_pmul_ge (by unfold dg at hp hq; omega)
theorem dg_lin (a : UInt8) : dg [a, 1] ≤ 2 := dg_len _
theorem ev_lin (a x : UInt8) : evp [a, 1] x = x ^^^ a := by
  show a ^^^ mul (1 ^^^ mul 0 x) x = x ^^^ a
  rw [zero_mul, xor_zero, one_mul, xor_comm]

/-! ### A polynomial with as many roots as numbers is nothing -/
def syn : List UInt8 → UInt8 → List UInt8
  | [], _ => []
  | _ :: p, a => evp p a :: syn p a
theorem co_syn : ∀ (p : List UInt8) (a : UInt8) (i : Nat), co (syn p a) i = evp (p.drop (i + 1)) a
  | [], a, i => by simp [syn, co_nil, evp]
  | c :: p, a, 0 => by simp [syn, co_zero]
  | c :: p, a, i + 1 => by
    show co (evp p a :: syn p a) (i + 1) = _
    rw [co_succ, co_syn p a i]; rfl
theorem ev_drop : ∀ (p : List UInt8) (a : UInt8) (i : Nat), evp (p.drop i) a = co p i ^^^ mul (evp (p.drop (i + 1)) a) a
  | [], a, i => by simp [co_nil, evp, zero_mul]
  | c :: p, a, 0 => by simp [co_zero, evp]
  | c :: p, a, i + 1 => by rw [List.drop_succ_cons, List.drop_succ_cons, co_succ]; exact ev_drop p a i
theorem ev_syn : ∀ (p : List UInt8) (a x : UInt8), evp p x = mul (x ^^^ a) (evp (syn p a) x) ^^^ evp p a
  | [], a, x => by simp [syn, evp, mul_zero]
  | c :: p, a, x => by
    show c ^^^ mul (evp p x) x = mul (x ^^^ a) (evp p a ^^^ mul (evp (syn p a) x) x) ^^^ (c ^^^ mul (evp p a) a)
    rw [ev_syn p a x, mul_add, add_mul, add_mul x a (evp p a), mul_assoc, mul_comm x (evp p a), mul_comm a (evp p a)]
    generalize mul (x ^^^ a) (mul (evp (syn p a) x) x) = A
    generalize mul (evp p a) x = B
    generalize mul (evp p a) a = C
    simp only [xor_comm, xor_left_comm, xor_assoc]
    rw [xor_self, xor_zero]
theorem roots : ∀ (xs : List UInt8), xs.Nodup → ∀ p : List UInt8, dg p ≤ xs.length → (∀ a ∈ xs, evp p a = 0) → ∀ i, co p i = 0
  | [], _, p, hd, _, i => dg_le.1 hd i (Nat.zero_le _)
  | a :: xs, hn, p, hd, hz, i => by
    rw [List.nodup_cons] at hn
    have ha := hz a (by simp)
    have hs : ∀ i, co (syn p a) i = 0 := by
      refine roots xs hn.2 (syn p a) (dg_le.2 fun i hi => ?_) (fun b hb => ?_)
      · rw [co_syn]
        refine ev_zero _ a fun j => ?_
        have : co (p.drop (i + 1)) j = co p (i + 1 + j) := by simp [co, List.getD_eq_getElem?_getD]
        rw [this]
        exact dg_le.1 hd _ (by simp only [List.length_cons]; omega)
      · have h1 := ev_syn p a b
        rw [hz b (by simp [hb]), ha, xor_zero] at h1
        rcases mul_eq_zero h1.symm with h | h
        · exact absurd (xor_eq_zero h) (fun e => hn.1 (e ▸ hb))
        · exact h
    have h2 := ev_drop p a i
    rw [← co_syn, hs i, zero_mul, xor_zero] at h2
    rw [← h2]
    cases i with
    | zero => rw [List.drop_zero]; exact ha
    | succ i => rw [← co_syn]; exact hs i
/-- Two polynomials of few enough numbers that agree at as many places are one. -/
theorem agree {xs : List UInt8} (hn : xs.Nodup) {p q : List UInt8} (hp : dg p ≤ xs.length) (hq : dg q ≤ xs.length) (h : ∀ a ∈ xs, evp p a = evp q a) : Sim p q := by
  intro i
  have := roots xs hn (pplus p q) (dg_pplus hp hq) (fun a ha => by rw [ev_pplus, h a ha, xor_self]) i
  rw [co_pplus] at this
  exact xor_eq_zero this

/-! ### Products over all places but one -/
def pe (xs : List UInt8) (i : Nat) (x : UInt8) : Nat → UInt8
  | 0 => 1
  | n + 1 => if n = i then pe xs i x n else mul (pe xs i x n) (x ^^^ co xs n)
def pep (xs : List UInt8) (i : Nat) : Nat → List UInt8
  | 0 => [1]
  | n + 1 => if n = i then pep xs i n else pmul (pep xs i n) [co xs n, 1]
theorem ev_pep (xs : List UInt8) (i : Nat) (x : UInt8) : ∀ n, evp (pep xs i n) x = pe xs i x n
  | 0 => by show 1 ^^^ mul 0 x = 1; rw [zero_mul, xor_zero]
  | n + 1 => by
    unfold pep pe
    split
    · exact ev_pep xs i x n
    · rw [ev_pmul, ev_pep xs i x n, ev_lin]
theorem dg_pep (xs : List UInt8) (i : Nat) : ∀ n, dg (pep xs i n) ≤ n + 1 ∧ (i < n → dg (pep xs i n) ≤ n)
  | 0 => ⟨dg_len _, fun h => by omega⟩
  | n + 1 => by
    obtain ⟨h1, h2⟩ := dg_pep xs i n
    unfold pep
    split
    · rename_i h; exact ⟨by omega, fun _ => h1⟩
    · rename_i h
      refine ⟨?_, fun hi => ?_⟩
      · have := dg_pmul h1 (dg_lin (co xs n)); omega
      · have := dg_pmul (h2 (by omega)) (dg_lin (co xs n)); omega
theorem pe_zero (xs : List UInt8) (i j : Nat) (hij : j ≠ i) : ∀ n, j < n → pe xs i (co xs j) n = 0
  | n + 1, h => by
    unfold pe
    by_cases hj : j = n
    · subst hj; rw [if_neg hij, xor_self, mul_zero]
    · have := pe_zero xs i j hij n (by omega)
      split
      · exact this
      · rw [this, zero_mul]
theorem co_inj {xs : List UInt8} (hn : xs.Nodup) {i j : Nat} (hi : i < xs.length) (hj : j < xs.length) (h : co xs i = co xs j) : i = j := by
  rw [co_lt hi, co_lt hj] at h
  rcases Nat.lt_trichotomy i j with h1 | h1 | h1
  · exact absurd h (List.pairwise_iff_getElem.1 hn i j hi hj h1)
  · exact h1
  · exact absurd h.symm (List.pairwise_iff_getElem.1 hn j i hj hi h1)
theorem pe_ne {xs : List UInt8} (hn : xs.Nodup) {i : Nat} (hi : i < xs.length) : ∀ n, n ≤ xs.length → pe xs i (co xs i) n ≠ 0
  | 0, _ => by show (1 : UInt8) ≠ 0; decide
  | n + 1, h => by
    unfold pe
    have := pe_ne hn hi n (by omega)
    split
    · exact this
    · rename_i hne
      exact mul_ne this (fun e => hne (co_inj hn (by omega) hi (xor_eq_zero e).symm))
/-- What the value at the i-th place counts for that at x. -/
def wt (xs : List UInt8) (i : Nat) (x : UInt8) : UInt8 := mul (pe xs i x xs.length) (inv (pe xs i (co xs i) xs.length))
/-- Sums. -/
def sm (f : Nat → UInt8) : Nat → UInt8
  | 0 => 0
  | n + 1 => sm f n ^^^ f n
theorem sm_one (f : Nat → UInt8) (j : Nat) : ∀ n, (∀ i, i < n → i ≠ j → f i = 0) → sm f n = if j < n then f j else 0
  | 0, _ => rfl
  | n + 1, h => by
    unfold sm
    rw [sm_one f j n (fun i hi => h i (by omega))]
    by_cases hj : j < n
    · rw [if_pos hj, if_pos (by omega), h n (by omega) (by omega), xor_zero]
    · rw [if_neg hj, zero_xor]
      by_cases hn : n = j
      · subst hn; rw [if_pos (by omega)]
      · rw [if_neg (by omega)]; exact h n (by omega) hn
theorem sm_congr {f g : Nat → UInt8} : ∀ n, (∀ i, i < n → f i = g i) → sm f n = sm g n
  | 0, _ => rfl
  | n + 1, h => by unfold sm; rw [sm_congr n (fun i hi => h i (by omega)), h n (by omega)]
/-- Lagrange's polynomial of these factors. -/
def lag (xs : List UInt8) (f : Nat → UInt8) : Nat → List UInt8
  | 0 => []
  | m + 1 => pplus (lag xs f m) ((pep xs m xs.length).map (mul (f m)))
theorem ev_lag (xs : List UInt8) (f : Nat → UInt8) (x : UInt8) : ∀ m, evp (lag xs f m) x = sm (fun i => mul (f i) (pe xs i x xs.length)) m
  | 0 => rfl
  | m + 1 => by
    unfold lag sm
    rw [ev_pplus, ev_lag xs f x m, ev_map, ev_pep]
theorem dg_lag (xs : List UInt8) (f : Nat → UInt8) : ∀ m, m ≤ xs.length → dg (lag xs f m) ≤ xs.length
  | 0, _ => Nat.zero_le _
  | m + 1, h => dg_pplus (dg_lag xs f m (by omega)) (dg_map _ ((dg_pep xs m xs.length).2 (by omega)))
/-- The values that Lagrange's polynomial has at the places. -/
theorem lag_at {xs : List UInt8} (hn : xs.Nodup) (ys : Nat → UInt8) {j : Nat} (hj : j < xs.length) : evp (lag xs (fun i => mul (ys i) (inv (pe xs i (co xs i) xs.length))) xs.length) (co xs j) = ys j := by
  rw [ev_lag, sm_one _ j _ (fun i hi hne => by rw [pe_zero xs i j (Ne.symm hne) _ hj, mul_zero]), if_pos hj, mul_assoc, inv_mul (pe_ne hn hj _ (Nat.le_refl _)), mul_one]
theorem mem_co {xs : List UInt8} {a : UInt8} (h : a ∈ xs) : ∃ j, j < xs.length ∧ a = co xs j := by
  obtain ⟨j, hj, rfl⟩ := List.getElem_of_mem h
  exact ⟨j, hj, (co_lt hj).symm⟩
theorem co_mem {xs : List UInt8} {j : Nat} (h : j < xs.length) : co xs j ∈ xs := by rw [co_lt h]; exact List.getElem_mem h
/-- The value anywhere, by the values at the places. -/
theorem lagrange {xs : List UInt8} (hn : xs.Nodup) {p : List UInt8} (hp : dg p ≤ xs.length) (x : UInt8) : evp p x = sm (fun i => mul (wt xs i x) (evp p (co xs i))) xs.length := by
  have h1 : Sim p (lag xs (fun i => mul (evp p (co xs i)) (inv (pe xs i (co xs i) xs.length))) xs.length) :=
    agree hn hp (dg_lag _ _ _ (Nat.le_refl _)) (fun a ha => by
      obtain ⟨j, hj, rfl⟩ := mem_co ha
      rw [lag_at hn (fun i => evp p (co xs i)) hj])
  rw [ev_sim _ _ x h1, ev_lag]
  refine sm_congr _ fun i _ => ?_
  unfold wt
  rw [mul_assoc, mul_comm (inv _) (pe xs i x xs.length), mul_comm (evp p (co xs i))]
end Gf

/- Small laws of lists, rows and numbers. No condition but lengths. -/




set_option linter.unusedSimpArgs false
set_option linter.unusedVariables false
namespace Gk
open Gf

/-! ### Small laws -/
theorem idx_co {p : List UInt8} {i : Nat} (h : i < p.length) : idx p (i : Int) = some (co p i) := by rw [idx_nat, co_get h]
theorem subL_nat {α : Type} (l : List α) (a b : Nat) (h1 : a ≤ b) (h2 : b ≤ l.length) : subL l (a : Int) (b : Int) = some ((l.take b).drop a) := by
  unfold subL; rw [if_pos ⟨by omega, by omega, by omega⟩]; simp
theorem wI_add (a b : Nat) (h : a + b < 9223372036854775808) : wI ((a : Int) + (b : Int)) = ((a + b : Nat) : Int) := by rw [wI_of (by omega) (by omega)]; omega
theorem wI_sub (a b : Nat) (h : b ≤ a) (h2 : a < 9223372036854775808) : wI ((a : Int) - (b : Int)) = ((a - b : Nat) : Int) := by rw [wI_of (by omega) (by omega)]; omega
theorem wI_pred (a : Nat) (h : 1 ≤ a) (h2 : a < 9223372036854775808) : wI ((a : Int) - 1) = ((a - 1 : Nat) : Int) := by rw [wI_of (by omega) (by omega)]; omega
theorem h257 : (257 : Nat) ≤ most := by decide
theorem most_lt' : most < 9223372036854775000 := by decide
theorem eq_of_co {p q : List UInt8} (hl : p.length = q.length) (h : ∀ i, co p i = co q i) : p = q := by
  apply List.ext_getElem hl
  intro i h1 h2
  have := h i
  rwa [co_lt h1, co_lt h2] at this
theorem co_sumL (a : List UInt8) (c : UInt8) (b : List UInt8) (i : Nat) : co (sumL a c b) i = if i < a.length then co a i ^^^ mul c (co b i) else 0 := by
  simp only [co, sumL, List.getD_eq_getElem?_getD, List.getElem?_mapIdx]
  by_cases h : i < a.length
  · simp [h]
  · simp [h, List.getElem?_eq_none (show a.length ≤ i by omega)]
theorem copyL_len {α : Type} (l : List α) (off : Nat) (m : List α) (h : off ≤ l.length) : (copyL l (off : Int) m).length = l.length := by
  simp only [copyL, Int.toNat_natCast, List.length_append, List.length_take, List.length_drop]; omega
theorem co_copyL (l : List UInt8) (off : Nat) (m : List UInt8) (h : off + m.length ≤ l.length) (j : Nat) : co (copyL l (off : Int) m) j = if off ≤ j ∧ j < off + m.length then co m (j - off) else co l j := by
  have e1 : m.take (l.length - off) = m := List.take_of_length_le (by omega)
  have e2 : min m.length (l.length - off) = m.length := by omega
  simp only [copyL, Int.toNat_natCast, e1, e2, co, List.getD_eq_getElem?_getD, List.getElem?_append, List.length_take, List.getElem?_take, List.getElem?_drop]
  by_cases h1 : j < off
  · rw [if_pos (by omega), if_pos (by omega), if_neg (by omega)]
  · rw [if_neg (by omega), show j - min off l.length = j - off by omega]
    by_cases h2 : j < off + m.length
    · rw [if_pos (by omega), if_pos ⟨by omega, h2⟩]
    · rw [if_neg (by omega), if_neg (by omega)]
      congr 2; omega
theorem co_take (p : List UInt8) (n i : Nat) : co (p.take n) i = if i < n then co p i else 0 := by
  simp only [co, List.getD_eq_getElem?_getD, List.getElem?_take]; split <;> simp
theorem co_drop (p : List UInt8) (n i : Nat) : co (p.drop n) i = co p (n + i) := by
  simp only [co, List.getD_eq_getElem?_getD, List.getElem?_drop]
theorem take_snoc {p : List UInt8} {i : Nat} (h : i < p.length) : p.take (i + 1) = p.take i ++ [co p i] := by
  rw [List.take_add_one, co_get h]; rfl

theorem co_tab (n : Nat) (f : Nat → UInt8) (i : Nat) : co ((List.range n).map f) i = if i < n then f i else 0 := by
  simp only [co, List.getD_eq_getElem?_getD, List.getElem?_map]
  by_cases h : i < n
  · simp [h]
  · rw [List.getElem?_eq_none (by simpa using h), if_neg h]; rfl
theorem anyO_all {α : Type} (t : α → Option Bool) (b : α → Bool) : ∀ l : List α, (∀ x ∈ l, t x = some (b x)) → anyO t l = some (l.any b)
  | [], _ => rfl
  | x :: l, h => by
    unfold anyO
    rw [h x (by simp), Option.bind_some, anyO_all t b l (fun y hy => h y (by simp [hy])), List.any_cons]
    cases b x <;> rfl
theorem getD_get {l : List (List UInt8)} {k : Nat} (h : k < l.length) : l[k]? = some (l.getD k []) := by simp [List.getD_eq_getElem?_getD, h]
theorem getD_mem {l : List (List UInt8)} {k : Nat} (h : k < l.length) : l.getD k [] ∈ l := List.mem_of_getElem? (getD_get h)
theorem idx_getD {l : List (List UInt8)} {k : Nat} (h : k < l.length) : idx l (k : Int) = some (l.getD k []) := by rw [idx_nat, getD_get h]
theorem getD_set {l : List (List UInt8)} {j : Nat} (h : j < l.length) (r : List UInt8) (i : Nat) : (l.set j r).getD i [] = if i = j then r else l.getD i [] := by
  simp only [List.getD_eq_getElem?_getD, List.getElem?_set]
  by_cases hij : j = i
  · subst hij; simp [h]
  · simp [hij, Ne.symm hij]
theorem getD_ge {l : List (List UInt8)} {i : Nat} (h : l.length ≤ i) : l.getD i [] = [] := by simp [List.getD_eq_getElem?_getD, List.getElem?_eq_none h]
theorem getD_rep {n i : Nat} (r : List UInt8) (h : i < n) : (List.replicate n r).getD i [] = r := by simp [List.getD_eq_getElem?_getD, h]
theorem getD_tab (n : Nat) (f : Nat → List UInt8) (i : Nat) (h : i < n) : ((List.range n).map f).getD i [] = f i := by simp [List.getD_eq_getElem?_getD, h]
theorem getD_map (f : List UInt8 → List UInt8) {l : List (List UInt8)} {i : Nat} (h : i < l.length) : (l.map f).getD i [] = f (l.getD i []) := by simp [List.getD_eq_getElem?_getD, h]
theorem rows_ext {a b : List (List UInt8)} (hl : a.length = b.length) (h : ∀ i, i < a.length → a.getD i [] = b.getD i []) : a = b := by
  apply List.ext_getElem hl
  intro i h1 h2
  have := h i h1
  simpa [List.getD_eq_getElem?_getD, h1, h2] using this
theorem idx_0 {l : List (List UInt8)} (h : 0 < l.length) : idx l 0 = some (l.getD 0 []) := by
  have := idx_getD (l := l) (k := 0) h
  rwa [show ((0 : Nat) : Int) = 0 from rfl] at this
theorem rows_snoc {l : List (List UInt8)} {i : Nat} (h : i < l.length) : l.take (i + 1) = l.take i ++ [l.getD i []] := by
  rw [List.take_add_one, getD_get h]; rfl
theorem appL_ok {α : Type} (a b : List α) (h : a.length + b.length ≤ most) (hb : b.length = 1) : appL a b = some (a ++ b) := by
  unfold appL; rw [if_pos (by omega)]
theorem mem_getD {l : List (List UInt8)} {r : List UInt8} (h : r ∈ l) : ∃ i, i < l.length ∧ l.getD i [] = r := by
  obtain ⟨i, hi, rfl⟩ := List.getElem_of_mem h
  exact ⟨i, hi, by simp [List.getD_eq_getElem?_getD, hi]⟩
/-! ### Rows that are written place by place -/
/-- The first k numbers are told by f. -/
def updB (row : List UInt8) (f : Nat → UInt8) (k : Nat) : List UInt8 := (List.range row.length).map fun j => if j < k then f j else co row j
theorem updB_len (row : List UInt8) (f : Nat → UInt8) (k : Nat) : (updB row f k).length = row.length := by simp [updB]
theorem co_updB (row : List UInt8) (f : Nat → UInt8) (k i : Nat) (h : i < row.length) : co (updB row f k) i = if i < k then f i else co row i := by
  unfold updB; rw [co_tab, if_pos h]
theorem updB_zero (row : List UInt8) (f : Nat → UInt8) : updB row f 0 = row := eq_of_co (updB_len _ _ _) fun i => by
  by_cases h : i < row.length
  · rw [co_updB _ _ _ _ h, if_neg (by omega)]
  · rw [co_ge (by rw [updB_len]; omega), co_ge (by omega)]
theorem updB_succ (row : List UInt8) (f : Nat → UInt8) (k : Nat) (h : k < row.length) : (updB row f k).set k (f k) = updB row f (k + 1) := eq_of_co (by simp [updB_len]) fun i => by
  rw [co_set (by rw [updB_len]; omega)]
  by_cases hi : i < row.length
  · rw [co_updB _ _ _ _ hi, co_updB _ _ _ _ hi]
    by_cases hik : i = k
    · rw [if_pos hik, if_pos (by omega), hik]
    · rw [if_neg hik]
      by_cases h2 : i < k
      · rw [if_pos h2, if_pos (by omega)]
      · rw [if_neg h2, if_neg (by omega)]
  · rw [if_neg (by omega), co_ge (by rw [updB_len]; omega), co_ge (by rw [updB_len]; omega)]
theorem updB_end (row : List UInt8) (f : Nat → UInt8) : updB row f row.length = (List.range row.length).map f := by
  unfold updB; exact List.map_congr_left fun j hj => by rw [if_pos (List.mem_range.1 hj)]
theorem idx_updB (row : List UInt8) (f : Nat → UInt8) (k i : Nat) (h : i < row.length) : idx (updB row f k) (i : Int) = some (if i < k then f i else co row i) := by
  rw [idx_co (by rw [updB_len]; exact h), co_updB _ _ _ _ h]
/-- The first i rows are told by F. -/
def updR (l : List (List UInt8)) (F : Nat → List UInt8) (i : Nat) : List (List UInt8) := (List.range l.length).map fun j => if j < i then F j else l.getD j []
theorem updR_len (l : List (List UInt8)) (F : Nat → List UInt8) (i : Nat) : (updR l F i).length = l.length := by simp [updR]
theorem getD_updR (l : List (List UInt8)) (F : Nat → List UInt8) (i j : Nat) (h : j < l.length) : (updR l F i).getD j [] = if j < i then F j else l.getD j [] := by
  unfold updR; rw [getD_tab _ _ _ h]
theorem updR_zero (l : List (List UInt8)) (F : Nat → List UInt8) : updR l F 0 = l := rows_ext (updR_len _ _ _) fun i h => by
  rw [updR_len] at h
  rw [getD_updR _ _ _ _ h, if_neg (by omega)]
theorem updR_succ (l : List (List UInt8)) (F : Nat → List UInt8) (k : Nat) (h : k < l.length) : (updR l F k).set k (F k) = updR l F (k + 1) := rows_ext (by simp [updR_len]) fun i hi => by
  rw [List.length_set, updR_len] at hi
  rw [getD_set (by rw [updR_len]; omega), getD_updR _ _ _ _ hi, getD_updR _ _ _ _ hi]
  by_cases hik : i = k
  · rw [if_pos hik, if_pos (by omega), hik]
  · rw [if_neg hik]
    by_cases h2 : i < k
    · rw [if_pos h2, if_pos (by omega)]
    · rw [if_neg h2, if_neg (by omega)]
theorem updR_end (l : List (List UInt8)) (F : Nat → List UInt8) : updR l F l.length = (List.range l.length).map F := by
  unfold updR; exact List.map_congr_left fun j hj => by rw [if_pos (List.mem_range.1 hj)]
theorem idx_updR (l : List (List UInt8)) (F : Nat → List UInt8) (k : Nat) (h : k < l.length) : idx (updR l F k) (k : Int) = some (l.getD k []) := by
  rw [idx_getD (by rw [updR_len]; exact h), getD_updR _ _ _ _ h, if_neg (by omega)]
theorem set_getD (l : List (List UInt8)) (i : Nat) : l.set i (l.getD i []) = l := by
  by_cases h : i < l.length
  · refine rows_ext (by simp) fun j hj => ?_
    rw [getD_set h]
    by_cases e : j = i
    · rw [if_pos e, e]
    · rw [if_neg e]
  · exact List.set_eq_of_length_le (by omega)
theorem idx_set {l : List (List UInt8)} {i : Nat} (h : i < l.length) (r : List UInt8) : idx (l.set i r) (i : Int) = some r := by
  rw [idx_getD (by simpa using h), getD_set h, if_pos rfl]
/-- A loop that writes a row's numbers one by one. -/
theorem row_loop {body : List (List UInt8) × Int → Option ((List (List UInt8) × Int) ⊕ List (List UInt8))} (l : List (List UInt8)) (i c : Nat) (h : i < l.length) (hc : (l.getD i []).length = c) (f : Nat → UInt8)
    (hs : ∀ k, k < c → body (l.set i (updB (l.getD i []) f k), (k : Int)) = some (.inl (l.set i ((updB (l.getD i []) f k).set k (f k)), ((k + 1 : Nat) : Int))))
    (he : ∀ s, body (s, (c : Int)) = some (.inr s)) : iterC body (l, 0) = some (l.set i ((List.range c).map f)) := by
  refine iterC_count (fun k => (l.set i (updB (l.getD i []) f k), (k : Int))) c _ ?_ ?_ ?_
  · rw [updB_zero, set_getD]; rfl
  · intro k hk
    rw [hs k hk, updB_succ _ _ _ (by omega)]
  · rw [he, ← hc, updB_end]
/-- A loop that writes rows one by one. -/
theorem rows_loop {body : List (List UInt8) × Int → Option ((List (List UInt8) × Int) ⊕ List (List UInt8))} (l : List (List UInt8)) (n : Nat) (hn : l.length = n) (F : Nat → List UInt8)
    (hs : ∀ i, i < n → body (updR l F i, (i : Int)) = some (.inl ((updR l F i).set i (F i), ((i + 1 : Nat) : Int))))
    (he : ∀ s, body (s, (n : Int)) = some (.inr s)) : iterC body (l, 0) = some ((List.range n).map F) := by
  refine iterC_count (fun i => (updR l F i, (i : Int))) n _ ?_ ?_ ?_
  · rw [updR_zero]; rfl
  · intro k hk
    rw [hs k hk, updR_succ _ _ _ (by omega)]
  · rw [he, ← hn, updR_end]
theorem flat_take_le (l : List (List UInt8)) (i : Nat) : (l.take i).flatten.length ≤ l.flatten.length := by
  have h := congrArg List.length (congrArg List.flatten (List.take_append_drop i l))
  rw [List.flatten_append, List.length_append] at h
  omega
theorem Concat_eq (l : List (List UInt8)) (h : l.flatten.length ≤ most) (hl : l.length ≤ most) : slices_Concat_sbytebyte l = some l.flatten := by
  unfold slices_Concat_sbytebyte
  have hmo := most_lt'
  refine bind_of (iterC_count (fun i => (((l.take i).flatten.length : Int), (i : Int))) l.length (l.flatten.length : Int) (by simp) ?_ (by simp)) ?_
  · intro i hi
    have h1 := flat_take_le l (i + 1)
    have e : (l.take (i + 1)).flatten.length = (l.take i).flatten.length + (l.getD i []).length := by rw [rows_snoc hi, List.flatten_append, List.length_append]; simp
    simp only
    rw [if_pos (by omega), idx_getD hi, Option.bind_some, wI_add _ _ (by omega), if_neg (by omega), wI_succ i (by omega), e]
  · unfold slices_Grow
    rw [if_pos (by omega), Option.bind_some]
    refine bind_of (iterC_count (fun i => ((l.take i).flatten, (i : Int))) l.length l.flatten (by simp) ?_ (by simp)) rfl
    intro i hi
    have h1 := flat_take_le l (i + 1)
    have e : (l.take (i + 1)).flatten = (l.take i).flatten ++ l.getD i [] := by rw [rows_snoc hi, List.flatten_append]; simp
    have e2 := congrArg List.length e
    rw [List.length_append] at e2
    simp only
    rw [if_pos (by omega), idx_getD hi, Option.bind_some]
    unfold appL
    rw [if_pos (by omega), Option.bind_some, wI_succ i (by omega), e]
end Gk
