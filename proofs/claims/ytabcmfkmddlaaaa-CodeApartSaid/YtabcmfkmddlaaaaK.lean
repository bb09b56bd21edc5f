/- Facts of the whole translation that each statement's step asks for. No condition. -/
import Derived.Test.YtabcmfkmddlaaaaRows
import Derived.Test.YtabcmfkmddlaaaaR
set_option linter.unusedVariables false
set_option linter.unusedSimpArgs false
namespace Go.Proofs.Ytabcmfkmddlaaaa
open Go.ChangeShapes Go.WideShapes Go.ChangeAt Go.RowKit
theorem wordsSigns_app (r : List Char) : ∀ w : List Char, w.all (fun c => c != Char.ofNat 32) = true → wordsSigns (w ++ Char.ofNat 32 :: r) = w :: wordsSigns r
  | [], _ => rfl
  | c :: w, h => by
    simp only [List.all_cons, Bool.and_eq_true] at h
    have ih := wordsSigns_app r w h.2
    have hc : c ≠ Char.ofNat 32 := by simpa using h.1
    simp only [List.cons_append]
    rw [wordsSigns.eq_3 _ _ (fun h => hc h), ih]
theorem words_of {S a b c r : String} (h : S = a ++ (" " ++ (b ++ (" " ++ (c ++ (" " ++ r)))))) (ha : a.toList.all (fun c => c != Char.ofNat 32) = true) (hb : b.toList.all (fun c => c != Char.ofNat 32) = true) (hc : c.toList.all (fun c => c != Char.ofNat 32) = true) :
    wordsSigns S.toList = a.toList :: b.toList :: c.toList :: wordsSigns r.toList := by
  have sp : " ".toList = [Char.ofNat 32] := by kernel_rfl
  rw [h, String.toList_append, String.toList_append, String.toList_append, String.toList_append, String.toList_append, String.toList_append, sp]
  simp only [List.cons_append, List.nil_append]
  rw [wordsSigns_app _ _ ha, wordsSigns_app _ _ hb, wordsSigns_app _ _ hc]
theorem behind {b : List Char} {r : List (List Char)} (hs : isSumSigns b = true) : behindMainWord ("harness".toList :: b :: "cut".toList :: r) = "cut".toList :: r := by
  simp only [behindMainWord, hs, beq_self_eq_true, Bool.true_or, Bool.and_self, if_true]
theorem mayEnter_of {P : Program} {b : List Char} {r : List (List Char)} (h : wordsSigns P.initOrder.toList = "harness".toList :: b :: "cut".toList :: r) (hs : isSumSigns b = true)
    (hl : P.laysLater = false) (hr : P.bearsReflect = false) (hd : P.doorFits [] = true) : P.mayEnter = true := by
  have e1 : stripLifts liftWords ("cut".toList :: r) = ([], "cut".toList :: r) := by kernel_rfl
  unfold Program.mayEnter
  rw [h]
  have e2 := behind (r := r) hs
  rw [e2]
  show _ = true
  simp only [e1, hl, hr, hd]
  kernel_rfl
theorem liftsFinal_of {P : Program} {b : List Char} {r : List (List Char)} (h : wordsSigns P.initOrder.toList = "harness".toList :: b :: "cut".toList :: r) (hs : isSumSigns b = true) : P.liftsFinal = false := by
  have e1 : stripLifts liftWords ("cut".toList :: r) = ([], "cut".toList :: r) := by kernel_rfl
  have e2 := behind (r := r) hs
  unfold Program.liftsFinal Program.headLifts
  dsimp only
  rw [h, e2, e1]
  show _ = false
  kernel_rfl
theorem make_of {P : Program} {b : List Char} {r : List (List Char)} (h : wordsSigns P.initOrder.toList = "harness".toList :: b :: "cut".toList :: r) (hs : isSumSigns b = true) : P.make = some .cut := by
  have e2 := behind (r := r) hs
  unfold Program.make
  rw [h, e2]
  show _ = some Make.cut
  kernel_rfl
theorem io : Try.checked.prog.initOrder = "harness" ++ (" " ++ ("ce6c28576b59aacd3286452e7938c28d8d633d5ae12c8af3d0ec54f588ad4283" ++ (" " ++ ("cut" ++ (" " ++ "at largesse/largesselaw08.ShamirAts largesse/largesselaw08.ShamirSplits largesse/largesselaw08.ShamirAdds largesse/largesselaw08.ShamirJoins largesse/largesselaw08.ShamirHides largesse/largesselaw09.CodeApart largesse/largesselaw09.CodeEncodes largesse/largesselaw09.CodeDecodes largesse/largesselaw09.CodeCuts"))))) := by kernel_rfl
theorem sumOk : isSumSigns "ce6c28576b59aacd3286452e7938c28d8d633d5ae12c8af3d0ec54f588ad4283".toList = true := by kernel_rfl
theorem words : wordsSigns Try.checked.prog.initOrder.toList = "harness".toList :: "ce6c28576b59aacd3286452e7938c28d8d633d5ae12c8af3d0ec54f588ad4283".toList :: "cut".toList :: wordsSigns "at largesse/largesselaw08.ShamirAts largesse/largesselaw08.ShamirSplits largesse/largesselaw08.ShamirAdds largesse/largesselaw08.ShamirJoins largesse/largesselaw08.ShamirHides largesse/largesselaw09.CodeApart largesse/largesselaw09.CodeEncodes largesse/largesselaw09.CodeDecodes largesse/largesselaw09.CodeCuts".toList :=
  words_of io (by kernel_rfl) (by kernel_rfl) (by kernel_rfl)
theorem mayEnterT : Try.checked.prog.mayEnter = true := mayEnter_of words sumOk (by as_aux_lemma => kernel_rfl) (by as_aux_lemma => kernel_rfl) (by as_aux_lemma => kernel_rfl)
theorem liftsFinalF : Try.checked.prog.liftsFinal = false := liftsFinal_of words sumOk
theorem makeT : Try.checked.prog.make = some .cut := make_of words sumOk
theorem ownKnobs : ownKnob Try.prog.godebug = none := by kernel_rfl
theorem laidOut : laidOutB Try.prog = true := by kernel_rfl
theorem mapsRowedT : mapsRowed Try.checked.prog = true := by kernel_rfl
theorem plainKeysT : Try.checked.prog.plainKeys = true := by kernel_rfl
theorem stopsHeardT : Try.checked.prog.stopsHeard = true := by kernel_rfl
theorem andT {a b : Bool} (h : a = true) (k : b = true) : (a && b) = true := by rw [h, k]; rfl
set_option maxRecDepth 100000 in
/-- The row's closed facts, out of their parts. -/
theorem joined {f : FuncId} {fn : Func} {s : ChangeSpec} {c : OpenClaim}
    (j0 : c.wf (OpenSpec.ofChange s) = true) (j3 : fn.params.all (Try.checked.prog.readableRec ·) = true) (j4 : namedTie Try.checked.prog c.named s.vars = true)
    (j5 : (c.stops == []) = true) (j6 : (Try.checked.prog.stops == []) = true) (j7 : (c.knobs == []) = true) (j8 : (Try.checked.prog.stopKnobs == []) = true)
    (j9 : (c.inPlace == Try.checked.prog.inPlace f) = true) (j10 : (c.unfollowed == Try.checked.prog.unfollowed f) = true) (j11 : (c.recurses == Try.checked.prog.recurses f) = true) (j12 : (c.named == Try.checked.prog.varsNamed f) = true)
    (j13 : (c.maps == (fn.params.toList ++ s.plain.varTypes Try.checked.prog).any (Try.checked.prog.mapsRec ·)) = true) (j14 : (c.ifaces == (fn.params.toList ++ s.plain.varTypes Try.checked.prog).any (Try.checked.prog.ifacesRec ·)) = true)
    (j15 : (c.mapsOut == Try.checked.prog.mapsAmong fn.resultTypes.toList) = true) (j16 : (c.loops == (fn.params.toList ++ s.plain.varTypes Try.checked.prog).any (Try.checked.prog.loopsFrom ·)) = true)
    (j17 : (c.wideKeys == (fn.params.toList ++ s.plain.varTypes Try.checked.prog ++ fn.resultTypes.toList).any (Try.checked.prog.wideKeysFrom ·)) = true) (j18 : s.vars.all (Try.checked.prog.varReadable ·) = true)
    (j19 : fn.resultTypes.all (fun t => Try.checked.prog.readableRec t && decide (t < Try.checked.prog.types.size)) = true) (j20 : (c.ifacesOut == fn.resultTypes.toList.any (Try.checked.prog.ifacesRec ·)) = true)
    (j21 : (c.loopsOut == fn.resultTypes.toList.any (Try.checked.prog.loopsFrom ·)) = true) (j22 : c.plainKeys = true) (j23 : c.shortTexts.isNone = true) (j26 : c.lifted = false) (j27 : c.make = .cut)
    (j28 : (c.kinds == (if c.domain.isEmpty then [] else fn.params.toList.map fun t => match Try.checked.prog.underlying t with | some (.int k) => some k | _ => none)) = true) (j29 : (c.pinned == c.pinnedBy) = true)
    (j30 : (c.veiled == (fn.params.toList ++ s.plain.varTypes Try.checked.prog ++ fn.resultTypes.toList).any (Try.checked.prog.veiledRec ·)) = true)
    (j31 : c.veiledFits Try.checked.prog fn.params.toList (fn.params.toList ++ s.plain.varTypes Try.checked.prog ++ fn.resultTypes.toList) = true) : joinedFacts Try.checked.prog f fn s c = true := by
  have h1 : laidOutB Try.checked.prog = true := laidOut
  have h2 : (c.plainKeys == Try.checked.prog.plainKeys) = true := by rw [j22, plainKeysT]; rfl
  have h3 : (c.lifted == Try.checked.prog.liftsFinal) = true := by rw [j26, liftsFinalF]; rfl
  have h4 : (Try.checked.prog.make == some c.make) = true := by rw [j27, makeT]; rfl
  unfold joinedFacts
  exact andT (andT (andT (andT (andT (andT (andT (andT (andT (andT (andT (andT (andT (andT (andT (andT (andT (andT (andT (andT (andT (andT (andT (andT (andT (andT (andT (andT (andT (andT (andT j0 h1) mapsRowedT) j3) j4) j5) j6) j7) j8) j9) j10) j11) j12) j13) j14) j15) j16) j17) j18) j19) j20) j21) h2) j23) stopsHeardT) mayEnterT) h3) h4) j28) j29) j30) j31
end Go.Proofs.Ytabcmfkmddlaaaa
