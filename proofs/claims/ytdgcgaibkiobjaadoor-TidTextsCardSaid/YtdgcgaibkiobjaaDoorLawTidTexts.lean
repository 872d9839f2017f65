/- The law TidTexts: whatever the input, its call answers true, and the input reads as it did; the listed tables as the program's text lays them. -/
import Derived.Test.YtdgcgaibkiobjaaDoorCards
import Derived.Test.YtdgcgaibkiobjaaDoorTie
import Derived.Test.YtdgcgaibkiobjaaDoorTs
import Derived.Lib.SmallJoins
import Derived.WalkKit
import Derived.ProofKit
import Derived.OpenShut
import Derived.ShutString
import Derived.ChangeOld
import Derived.Below
import Derived.SizedLaws
import Derived.LaidMore
import Derived.Lay
import Derived.SevenTiedAt
import Derived.Stop.Joined
namespace Go.Proofs.YtdgcgaibkiobjaaDoor.tidTexts
open Go.ChangeShapes Go.WideShapes Go.ChangeAt Go.RowKit
open Go.ChangeMaps (open_string shut_string)
open Go.Joins
set_option linter.unusedVariables false
theorem own : ownKnob Tryd.prog.godebug = none := by kernel_rfl
theorem laidOut : laidOutB Tryd.prog = true := by kernel_rfl
set_option maxRecDepth 100000 in
theorem iface_cell {W : World} {t : TypeId} {ms : Array (String × TypeId)} {fuel : Nat} {sp : Nat → Bool} {cs : List Value} {x : DataW Unit × List MemPlace} (ht : Tryd.prog.underlying t = some (.interface ms)) (h : DataW.trod (fun _ => ()) Tryd.prog W 0 sp false fuel t cs = some x) : ∃ ev, cs = [ev] ∧ (ev = .nilIface ∨ ∃ te pe, ev = .iface te pe) := by
  cases fuel with
  | zero => simp [DataW.trod] at h
  | succ m =>
    rw [DataW.trod_step] at h
    unfold DataW.trodStep at h
    rw [ht] at h
    rcases cs with _ | ⟨c, _ | ⟨c2, r⟩⟩
    · simp at h
    · revert h
      cases c <;> intro h <;> first | exact ⟨_, rfl, Or.inl rfl⟩ | exact ⟨_, rfl, Or.inr ⟨_, _, rfl⟩⟩ | (simp at h)
    · revert h
      cases c <;> intro h <;> simp at h
theorem err_at {W : World} {nm : String} {g : Nat} {d : DataW Unit} {cs : Array Value} {p : List MemPlace} {fuel : Nat} (hg : Tryd.prog.globalNamed nm = some g) (hv : W.var? Tryd.prog nm = some cs) (hd : DataW.trod (fun _ => ()) Tryd.prog W 0 (fun _ => true) false fuel 57 cs.toList = some (d, p)) : Tk.ErrAt g W := by
  obtain ⟨ev, h1, h2⟩ := iface_cell Tryd.underlying57 hd
  refine ⟨ev, ?_, h2⟩
  rw [World.var?_cell hg hv 0]
  have : cs.toList[0]? = some ev := by rw [h1]; rfl
  simpa using this
set_option maxRecDepth 100000 in
theorem laid_pw {W : World} (h : laidMetH Tryd.prog Rows.tidTextsRow.laid W) : Tk.PW W := by
  rw [MakeChecks.laidMetH_plain _ _ _ (by kernel_rfl)] at h
  obtain ⟨ps, hv, hn, hc⟩ := h
  obtain ⟨g1, t1, cs1, fu1, p1, q1, _, _, _, _, hv1, _⟩ := hv
  obtain ⟨g2, t2, cs2, fu2, p2, q2, _, _, _, _, hv2, _⟩ := hv1
  obtain ⟨g3, t3, cs3, fu3, p3, q3, hg3, ht3, hvar3, hd3, hv3, _⟩ := hv2
  obtain ⟨g4, t4, cs4, fu4, p4, q4, _, _, _, _, hv4, _⟩ := hv3
  obtain ⟨g5, t5, cs5, fu5, p5, q5, hg5, ht5, hvar5, hd5, hv5, _⟩ := hv4
  obtain ⟨g6, t6, cs6, fu6, p6, q6, hg6, ht6, hvar6, hd6, hv6, _⟩ := hv5
  have n3 : Tryd.prog.globalNamed "internal/strconv.uint64pow10" = some 0 := by kernel_rfl
  have n5 : Tryd.prog.globalNamed "strconv.ErrRange" = some 3 := by kernel_rfl
  have n6 : Tryd.prog.globalNamed "strconv.ErrSyntax" = some 2 := by kernel_rfl
  obtain rfl := Option.some.inj (n3.symm.trans hg3)
  obtain rfl := Option.some.inj (n5.symm.trans hg5)
  obtain rfl := Option.some.inj (n6.symm.trans hg6)
  obtain rfl := Option.some.inj ((show (Tryd.prog.globals[0]?).map (·.type) = some 92 by kernel_rfl).symm.trans ht3)
  obtain rfl := Option.some.inj ((show (Tryd.prog.globals[3]?).map (·.type) = some 57 by kernel_rfl).symm.trans ht5)
  obtain rfl := Option.some.inj ((show (Tryd.prog.globals[2]?).map (·.type) = some 57 by kernel_rfl).symm.trans ht6)
  refine ⟨?_, err_at n6 hvar6 hd6, err_at n5 hvar5 hd5⟩
  have hd : DataW.trod (fun _ => ()) Tryd.prog W 0 (fun _ => true) false fu3 92 cs3.toList = some (Lib.tabData .u64 Lib.pow10Tab, p3) := hd3
  unfold Lib.TabIs
  rw [hvar3, ← Lib.cells_of_tab Tryd.underlying92 Tryd.underlying22 (by kernel_rfl) (by kernel_rfl) hd]
set_option maxRecDepth 100000 in
theorem lifted (os : Os) (started : os.Started) (H : Type) (enc : TypeId × Value → H) :
    ReturnsInHanded {} Tryd.checked os 3 .any (fun w args => (Rows.tidTextsSpec.pre enc Tryd.prog Tryd.f3 Rows.tidTextsRow.domain false w args ∧ laidMetH Tryd.prog Rows.tidTextsRow.laid w) ∧ sizedMet enc Tryd.prog Tryd.f3 (OpenSpec.ofChange Rows.tidTextsSpec) false w args)
      (Rows.tidTextsSpec.post enc Tryd.prog Tryd.f3 false true false false) := by
  refine returnsInHanded_of_change_and (C := Tryd.checked) (X := fun w _ => laidMetH Tryd.prog Rows.tidTextsRow.laid w) (fun _ _ _ hh h => h.of_heap hh) own started (by kernel_rfl) Tryd.func3
    (ChangeSpec.witness_shaped (enc := enc) (C := Tryd.checked) (os := os) (X := fun w _ => laidMetH Tryd.prog Rows.tidTextsRow.laid w) false (World.laidAll Tryd.prog os Rows.tidTextsRow.laid) #[.int .u64 0, .string ⟨#[]⟩] 8 (World.laidAll_os _ _ _)
      (World.shaped_of_ZipB (by kernel_rfl) (by kernel_rfl)) (by kernel_rfl) (by kernel_rfl) (by kernel_rfl)
      (by rw [MakeChecks.laidMetH_plain _ _ _ (by kernel_rfl)]; exact laidMet_laidAll _ (by kernel_rfl) (by kernel_rfl))) ?_
  intro W base args ds gs before hval0 hW hcnd _ hL _
  have hval : ∀ (j : Nat) t v, Tryd.f3.params[j]? = some t → args[j]? = some v → Value.okWide Tryd.prog W .any base t v := hval0
  have hW' := hW
  obtain ⟨p, q, hA0, hV, rfl, hfz, hnd⟩ := hW
  have hA : DataW.TrodAll enc Tryd.prog W 0 (fun _ => true) true Tryd.f3.params.toList args.toList ds p := hA0
  rw [Tryd.params3] at hA hval
  obtain ⟨v0, vs0, d0, ds0, p0, q0, hargs, rfl, rfl, h0, r0⟩ := trodAll_cons hA
  obtain ⟨v1, vs1, d1, ds1, p1, q1, rfl, rfl, rfl, h1, r1⟩ := trodAll_cons r0
  obtain ⟨rfl, rfl, rfl⟩ := trodAll_nil r1
  obtain rfl : args = #[v0, v1] := by cases args; simp_all
  obtain ⟨rfl, rfl⟩ := trodVars_none hV
  have k0 := h0
  have lt0 : ∀ x ∈ p0, x.block < W.heap.size := by obtain ⟨m, hm⟩ := k0; exact DataW.trod_lt m _ _ _ hm
  obtain ⟨n0, rfl, rfl, rfl, wn0⟩ := open_int Tryd.underlying22 (hval 0 22 v0 rfl rfl) h0
  have k1 := h1
  have lt1 : ∀ x ∈ p1, x.block < W.heap.size := by obtain ⟨m, hm⟩ := k1; exact DataW.trod_lt m _ _ _ hm
  obtain ⟨s1, rfl, rfl, rfl, ws1⟩ := open_string Tryd.underlying9 (hval 1 9 v1 rfl rfl) h1
  clear hA0 hval0
  refine (Tk.texts_wf n0 s1 W wn0 (laid_pw hL)).mono fun e W' ⟨he, bel⟩ => ?_
  subst he
  exact ⟨_, rfl, _, _, _, [], _, [], hW', trodAll_mk1 (shut_bool Tryd.underlying4 _), (trodAll_cons_mk (Below.trod laidOut (by kernel_rfl) (of_decide_eq_true (by kernel_rfl)) k0 bel lt0) (trodAll_cons_mk (Below.trod laidOut (by kernel_rfl) (of_decide_eq_true (by kernel_rfl)) k1 bel lt1) trodAll_mk0)), rfl, bel.frame _, fun h => by cases h⟩
theorem holds : Rows.TidTextsSaid :=
  OpenClaim.holds_of_wide 3 Tryd.f3 rfl rfl rfl rfl rfl rfl rfl ⟨rfl, rfl, rfl, rfl, rfl⟩ rfl rfl rfl rfl rfl (by kernel_rfl) Tryd.func3 (by kernel_rfl)
    (of_decide_eq_true (by kernel_rfl)) (by unfold Func.isWrapper; first | (rw [if_pos (by decide +kernel)]; kernel_rfl) | (rw [if_neg (by decide +kernel)]; exact ⟨rfl, rfl⟩))
    (fun os started H enc _ => lifted os started H enc)
theorem card : Rows.TidTextsCardSaid :=
  Claim7.holds_tied_plain_at .later [] [.data, .data, .data, .data, .sentinel, .sentinel, .pinned] true (true, "5f607a38eca78d72ea92842448be20948ef03109b0ac65f7ec85ece38334d7a3") true holds (fun _ h => by cases h) (by kernel_rfl) (fun _ h => by cases h) tidTexts_row_tie rfl ⟨rfl, rfl⟩ (by kernel_rfl) rfl
    (fun f fn hf hfn => by
      obtain rfl : f = 3 := Option.some.inj ((show Tryd.prog.funcNamed "garner/garnerlaw07.TidTexts" = some 3 by kernel_rfl).symm.trans hf) |>.symm
      obtain rfl : fn = Tryd.f3 := (Option.some.inj (Tryd.func3.symm.trans hfn)).symm
      exact ⟨by kernel_rfl, fun j t ht => by
        rw [Tryd.params3] at ht
        have hm : t ∈ [22, 9] := by simpa using Array.mem_of_getElem? ht
        have hall : ([22, 9].all fun u => !Tryd.prog.wantsStandIn u) = true := by kernel_rfl
        exact (show Tryd.prog.wantsStandIn t = false by simpa using List.all_eq_true.1 hall t hm)⟩)
    (by kernel_rfl)
#print axioms card
end Go.Proofs.YtdgcgaibkiobjaaDoor.tidTexts
namespace Go.Proofs.YtdgcgaibkiobjaaDoor
/-- The card, under a short name, for the claim. -/
theorem tidTexts_card : Rows.TidTextsCardSaid := tidTexts.card
end Go.Proofs.YtdgcgaibkiobjaaDoor
