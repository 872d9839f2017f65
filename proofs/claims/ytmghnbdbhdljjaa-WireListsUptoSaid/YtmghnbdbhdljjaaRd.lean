/- Readers of wire: what a reader is in memory, and what each of its calls answers, as a plain function of its bytes and its place. -/
import Derived.Test.YtmghnbdbhdljjaaProg
import Derived.Below
import Derived.Deep.Draws
import Derived.Deep.AppendLies
import Derived.Maps.AppendAt
import Derived.OwnWalk
import Derived.Laws.BytesArg
import Derived.Laws.MakeOwn
import Derived.Laws.OwnMore
import Derived.Deep.OwnRows
import Derived.Tactics
import Derived.Lib.ConvBytes
import Derived.Laws.Slices
import Derived.WalkKit
import Derived.KernelRfl
import Derived.RowKit3
import Derived.Deep.LoopGhost
import Derived.Deep.QuietTactic
import Derived.BigQuiet
import Derived.WideLaws
import Derived.Deep.DeepCutAuto
import Derived.Deep.CutBlock
import Derived.Deep.RegionHeld3
import Derived.Laws.Rows
import Derived.Lib.AppendStr
import Derived.ArgAppend
import Derived.Laws.IdiomCopy
import Derived.OrdersHeld
import Derived.Laws.BitsLemmas
import Derived.RowKit
import Derived.Lib.BytesEntry
import Derived.Test.YtmghnbdbhdljjaaWWords
import Derived.Test.YtmghnbdbhdljjaaWLast
import Derived.Test.YtmghnbdbhdljjaaWTab
import Derived.Test.YtmghnbdbhdljjaaWFour
import Derived.Test.YtmghnbdbhdljjaaWQPut
import Derived.Test.YtmghnbdbhdljjaaWApart
import Derived.Test.YtmghnbdbhdljjaaWArr
import Derived.Test.YtmghnbdbhdljjaaWZeros
import Derived.Test.YtmghnbdbhdljjaaWFoot
import Derived.Test.YtmghnbdbhdljjaaWKept
import Derived.Test.YtmghnbdbhdljjaaWShare
import Derived.Test.YtmghnbdbhdljjaaWN
import Derived.Test.YtmghnbdbhdljjaaWFootNe
import Derived.Test.YtmghnbdbhdljjaaWAt
import Derived.Test.YtmghnbdbhdljjaaWEqStruct
import Derived.Test.YtmghnbdbhdljjaaWRepsOne
import Derived.Test.YtmghnbdbhdljjaaWInv
import Derived.Test.YtmghnbdbhdljjaaWInvWords
import Derived.Test.YtmghnbdbhdljjaaWGuard
import Derived.Test.YtmghnbdbhdljjaaWNEv
import Derived.Test.YtmghnbdbhdljjaaWMore
import Derived.OwnWalkIn
import Derived.TacticsInMore
import Derived.LoopNIn
import Derived.LoopIn
import Derived.Maps.AppendAt
import Derived.Maps.Range
import Derived.StillTailTactics
import Derived.WalkSpells
import Derived.IntWalk
import Derived.Laws.BitsAllLaws
import Derived.WalkMore
import Derived.Laws.Cover3
namespace Go.Proofs.Ytmghnbdbhdljjaa.Rd
open Go.RowKit Go.Proofs.YtmghnbdbhdljjaaW.PrintWords Go.Proofs.YtmghnbdbhdljjaaW.PrintLast Go.Proofs.YtmghnbdbhdljjaaW.PrintMore
set_option linter.unusedVariables false
set_option linter.unusedSimpArgs false
/-- Whole numbers that are bytes. -/
def Byt (l : List Int) : Prop := ∀ x ∈ l, 0 ≤ x ∧ x < 256
theorem byt_rd {l : List Int} (h : Byt l) {i : Nat} (hi : i < l.length) : 0 ≤ rd l i ∧ rd l i < 256 := by
  have e : rd l (i : Int) = l[i] := by simp [rd, hi]
  rw [e]
  exact h _ (List.getElem_mem hi)
/-- A reader at block g: its bytes lie in block y. -/
def Is (W : World) (g y : Nat) (b : List Int) (n : Nat) : Prop :=
  ∃ (ad : Addr) (c : Nat), W.heap[g]? = some (.cells #[.slice (some ad) b.length c, .int .i64 n] 73 (0, 0)) ∧ b.length ≤ c ∧ Kd.C (Kd.int .u8) W (some ad) b.length b ∧ ad.block = y ∧ y ≠ g ∧ n ≤ b.length ∧ Byt b
/-- A row of whole numbers, block by block. -/
theorem C_grown {k : IntKind} {w W : World} {A : Option Addr} {n : Nat} {xs : List Int} {row : Option Nat} (h : Kd.C (Kd.int k) w A n xs) (hg : w.grownBy W row) (hne : ∀ ad, A = some ad → some ad.block ≠ row) : Kd.C (Kd.int k) W A n xs := by
  refine ⟨h.1, h.2.1, fun hn => ?_⟩
  obtain ⟨ad, e, hc⟩ := h.2.2 hn
  refine ⟨ad, e, fun j p hj => ?_⟩
  obtain ⟨c, hl, hK, hcell⟩ := hc j p hj
  refine ⟨c, hl, hK, fun i u hu => hg.cell (hcell i u hu) ?_⟩
  rw [add_block]
  exact hne ad e
theorem Is.grown {w W : World} {g y : Nat} {b : List Int} {n : Nat} {row : Option Nat} (h : Is w g y b n) (hw : w.grownBy W row) (h1 : some g ≠ row) (h2 : some y ≠ row) : Is W g y b n := by
  obtain ⟨ad, c, hb, hc, hr, hy, hne, hn, hB⟩ := h
  exact ⟨ad, c, blk_grown hb hw h1, hc, C_grown hr hw (fun a e => by cases e; rw [hy]; exact h2), hy, hne, hn, hB⟩
theorem Is.lt {w : World} {g y : Nat} {b : List Int} {n : Nat} (h : Is w g y b n) : g < w.heap.size := by
  obtain ⟨ad, c, hb, _⟩ := h
  exact blk_lt hb
theorem Is.le {w : World} {g y : Nat} {b : List Int} {n : Nat} (h : Is w g y b n) : n ≤ b.length := by
  obtain ⟨ad, c, hb, hc, hr, hy, hne, hn, hB⟩ := h
  exact hn
theorem Is.byt {w : World} {g y : Nat} {b : List Int} {n : Nat} (h : Is w g y b n) : Byt b := by
  obtain ⟨ad, c, hb, hc, hr, hy, hne, hn, hB⟩ := h
  exact hB
theorem Is.ne {w : World} {g y : Nat} {b : List Int} {n : Nat} (h : Is w g y b n) : y ≠ g := by
  obtain ⟨ad, c, hb, hc, hr, hy, hne, hn, hB⟩ := h
  exact hne
theorem Is.below {w W : World} {g y : Nat} {b : List Int} {n : Nat} (h : Is w g y b n) (hw : Below w.heap.size w W) : Is W g y b n := h.grown (grown_of_below hw none) (by simp) (by simp)
theorem set_grown (w : World) (p : Addr) (u : Value) : w.grownBy (w.setCell p u) (some p.block) :=
  ⟨rfl, rfl, rfl, Nat.le_of_eq (by simp), fun k _ hk => Below.heap_setCell w p u k (fun e => hk (by rw [e]))⟩
theorem Is.row_lt {w : World} {g y : Nat} {b : List Int} {n : Nat} (h : Is w g y b n) (hb : 0 < b.length) : y < w.heap.size := by
  obtain ⟨ad, c, _, hc, hr, hy, hne, hn, hB⟩ := h
  obtain ⟨ad', e, hcell⟩ := hr.2.2 hb
  cases e
  obtain ⟨c', hl, hK, h2⟩ := hcell 0 b[0] (by simp [hb])
  have := World.block_lt_of_cell? w _ (h2 0 (.int .u8 b[0]) (by rw [hK]; rfl))
  rw [add_block, hy] at this
  exact this
theorem Is.under {B : Nat} {w W : World} {g y : Nat} {b : List Int} {n : Nat} (h : Is w g y b n) (hw : Below B w W) (hg : g < B) (hy' : 0 < b.length → y < B) : Is W g y b n := by
  obtain ⟨ad, c, hb, hc, hr, hy, hne, hn, hB⟩ := h
  refine ⟨ad, c, (hw.block g hg).trans hb, hc, ⟨hr.1, hr.2.1, fun hn => ?_⟩, hy, hne, ‹_›, hB⟩
  obtain ⟨ad', e, hcell⟩ := hr.2.2 hn
  refine ⟨ad', e, fun j p hj => ?_⟩
  obtain ⟨c', hl, hK, h2⟩ := hcell j p hj
  refine ⟨c', hl, hK, fun i u hu => (hw.cell (p := ad'.add _) ?_).trans (h2 i u hu)⟩
  rw [add_block]
  cases e
  rw [hy]
  exact hy' hn
theorem grown_under {B : Nat} {w W V : World} {row : Option Nat} (h : w.grownBy W row) (hb : Below B W V) (hB : w.heap.size ≤ B) : w.grownBy V row :=
  ⟨hb.os.trans h.os, hb.tape.trans h.tape, hb.output.trans h.output, Nat.le_trans h.size hb.size, fun k hk hne => (hb.block k (by omega)).trans (h.block k hk hne)⟩
/-- The place is written. -/
theorem Is.set {w : World} {g y : Nat} {b : List Int} {n : Nat} (h : Is w g y b n) (m : Nat) (hm : m ≤ b.length) : Is (w.setCell ⟨g, 1, none⟩ (.int .i64 m)) g y b m := by
  obtain ⟨ad, c, hb, hc, hr, hy, hne, hn, hB⟩ := h
  exact ⟨ad, c, by simpa using blk_set hb 1 (.int .i64 m), hc, C_grown hr (set_grown w ⟨g, 1, none⟩ _) (fun a e => by cases e; rw [hy]; exact fun h => hne (Option.some.inj h)), hy, hne, hm, hB⟩
/-! ### is it there, how much is left -/
theorem there (g y : Nat) (b : List Int) (n : Nat) (w : World) (h : Is w g y b n) :
    Calls Try.prog 38 #[.pointer (some ⟨g, 0, none⟩)] w fun e w' => e = .returned (.bool true) ∧ w = w' := by
  obtain ⟨ad, c, hb, hc, hr, hy, hne, hn, hB⟩ := h
  have c0 : w.cell? ⟨g, 0, none⟩ = some (.slice (some ad) b.length c) := (blk_cell hb 0).trans rfl
  clear hb hr
  go_enter Try.func38, Try.ntmps38
  go_wp2
  go_ret
  exact ⟨rfl, rfl⟩
theorem Is.open_ {w : World} {g y : Nat} {b : List Int} {n : Nat} (h : Is w g y b n) : ∃ (ad : Addr) (c : Nat), ad.block = y ∧ w.cell? ⟨g, 0, none⟩ = some (.slice (some ad) b.length c) ∧ w.cell? ⟨g, 1, none⟩ = some (.int .i64 n) ∧
    w.frozen? ⟨g, 1, none⟩ = false ∧ b.length ≤ c ∧ Aside0 (Kd.C (Kd.int .u8) w (some ad) b.length b) := by
  obtain ⟨ad, c, hb, hc, hr, hy, hne, hn, hB⟩ := h
  exact ⟨ad, c, hy, (blk_cell hb 0).trans rfl, (blk_cell hb 1).trans rfl, blk_frozen hb 1, hc, ⟨hr⟩⟩
theorem Is.max {w : World} {g y : Nat} {b : List Int} {n : Nat} (h : Is w g y b n) : b.length ≤ 9223372036854775807 := by
  obtain ⟨ad, c, hb, hc, hr, hy, hne, hn, hB⟩ := h
  exact hr.2.1
theorem grown_drewN (w : World) (m : Nat) (row : Option Nat) : w.grownBy (w.drewN m) row := ⟨rfl, rfl, rfl, Nat.le_refl _, fun _ _ _ => rfl⟩
theorem grown_drawn {w W : World} (h : Drawn0 w W) (row : Option Nat) : w.grownBy W row := by
  obtain ⟨m, rfl⟩ := h
  exact grown_drewN w m row
theorem Is.drewN {w : World} {g y : Nat} {b : List Int} {n : Nat} (h : Is w g y b n) (m : Nat) : Is (w.drewN m) g y b n := h.grown (grown_drewN w m none) (by simp) (by simp)
theorem left (g y : Nat) (b : List Int) (n : Nat) (w : World) (h : Is w g y b n) :
    Calls Try.prog 26 #[.pointer (some ⟨g, 0, none⟩)] w fun e w' => e = .returned (.int .i64 ((b.length - n : Nat) : Int)) ∧ ∃ m, w' = w.drewN m := by
  have H := Aside0.mk h
  obtain ⟨ad, c, hy, c0, c1, cf, hc, hr⟩ := h.open_
  have hn := h.le
  have hm := h.max
  have e1 : wrap64 ((b.length : Int) - (n : Int)) = ((b.length - n : Nat) : Int) := by unfold wrap64; omega
  have E1 := Aside0.mk e1
  clear h hn hm e1
  go_enter Try.func26, Try.ntmps26
  go_wp2_with (first | (go_at_call 38; refine (there _ _ _ _ _ H.out).mono ?_; rintro e w' ⟨rfl, rfl⟩))
  repeat (go_quiet (fail); try go_wp2)
  go_ret
  exact ⟨congrArg (fun z => Ending.returned (Value.int .i64 z)) E1.out, _, rfl⟩
/-! ### a number -/
def rnum (b : List Int) : Nat → Nat → Nat → Nat → Option (Nat × Nat)
  | 0, _, _, _ => none
  | k + 1, i, s, n =>
    if i < b.length then
      if (s = 63 ∧ 1 < rd b i) ∨ (0 < s ∧ rd b i = 0) then none
      else if rd b i < 128 then some (n + (rd b i).toNat % 128 * 2 ^ s, i + 1) else rnum b k (i + 1) (s + 7) (n + (rd b i).toNat % 128 * 2 ^ s)
    else none
theorem wrap_u64_nat (x : Nat) (h : x < 18446744073709551616) : IntKind.u64.wrap (x : Int) = (x : Int) := by
  simp [IntKind.wrap, IntKind.bits, IntKind.signed]
  omega
theorem step_or (m q : Nat) (v : Int) (hm : m < 2 ^ q) (v0 : 0 ≤ v) (v1 : v < 256) (hq : q ≤ 56 ∨ (q = 63 ∧ v = 1)) :
    bits .or .u64 (m : Int) (IntKind.u64.wrap (IntKind.u64.wrap (bits .and .u8 v 127) * 2 ^ q)) = ((m + v.toNat % 128 * 2 ^ q : Nat) : Int) := by
  have e1 : bits .and .u8 v 127 = ((v.toNat % 128 : Nat) : Int) := by
    rw [u8_and v 127 v0 v1 (by omega) (by omega)]
    exact congrArg _ (nat_mask7 v.toNat)
  have hx : v.toNat % 128 * 2 ^ q < 18446744073709551616 := by
    rcases hq with hq | ⟨rfl, rfl⟩
    · have h1 : 2 ^ q ≤ 2 ^ 56 := Nat.pow_le_pow_right (by decide) hq
      have h2 : v.toNat % 128 * 2 ^ q ≤ 127 * 2 ^ 56 := Nat.mul_le_mul (by omega) h1
      omega
    · decide
  have hm2 : m < 18446744073709551616 := by
    have h1 : 2 ^ q ≤ 2 ^ 63 := Nat.pow_le_pow_right (by decide) (by omega)
    omega
  have e2 : ((v.toNat % 128 : Nat) : Int) * 2 ^ q = ((v.toNat % 128 * 2 ^ q : Nat) : Int) := by simp
  rw [e1, wrap_u64_nat _ (by omega), e2, wrap_u64_nat _ hx, u64_or_nat _ _ hm2 hx, Nat.or_comm, nat_join q _ m (Nat.mul_mod_left _ _) hm, Nat.add_comm]
theorem rnum_bad {b : List Int} {k p q m : Nat} (hk : 0 < k) (h : p < b.length → (q = 63 ∧ 1 < rd b p) ∨ (0 < q ∧ rd b p = 0)) : rnum b k p q m = none := by
  obtain ⟨k, rfl⟩ : ∃ j, k = j + 1 := ⟨k - 1, by omega⟩
  rw [rnum]
  by_cases hl : p < b.length
  · rw [if_pos hl, if_pos (h hl)]
  · rw [if_neg hl]
theorem rnum_end {b : List Int} {k p q m : Nat} (hk : 0 < k) (hl : p < b.length) (h : ¬((q = 63 ∧ 1 < rd b p) ∨ (0 < q ∧ rd b p = 0))) (h2 : rd b p < 128) : rnum b k p q m = some (m + (rd b p).toNat % 128 * 2 ^ q, p + 1) := by
  obtain ⟨k, rfl⟩ : ∃ j, k = j + 1 := ⟨k - 1, by omega⟩
  rw [rnum, if_pos hl, if_neg h, if_pos h2]
theorem rnum_on {b : List Int} {k p q m : Nat} (hk : 0 < k) (hl : p < b.length) (h : ¬((q = 63 ∧ 1 < rd b p) ∨ (0 < q ∧ rd b p = 0))) (h2 : ¬ rd b p < 128) : rnum b k p q m = rnum b (k - 1) (p + 1) (q + 7) (m + (rd b p).toNat % 128 * 2 ^ q) := by
  obtain ⟨k, rfl⟩ : ∃ j, k = j + 1 := ⟨k - 1, by omega⟩
  rw [rnum, if_pos hl, if_neg h, if_neg h2]
  rfl
def NumPost (R : Option (Nat × Nat)) (g y : Nat) (b : List Int) (n : Nat) (w : World) (e : Ending) (w' : World) : Prop := match R with
  | some (x, m) => e = .returned (.tuple #[.int .u64 x, .int .i64 0]) ∧ Is w' g y b m ∧ w.grownBy w' (some g)
  | none => e = .returned (.tuple #[.int .u64 0, .int .i64 4]) ∧ Is w' g y b n ∧ w.grownBy w' none
set_option maxHeartbeats 4000000 in
set_option maxRecDepth 100000 in
theorem number (g y : Nat) (b : List Int) (n : Nat) (w : World) (h : Is w g y b n) :
    Calls Try.prog 20 #[.pointer (some ⟨g, 0, none⟩)] w (NumPost (rnum b 10 n 0 0) g y b n w) := by
  have H := Aside0.mk h
  obtain ⟨ad, c, hy, c0, c1, cf, hc, hr⟩ := h.open_
  clear h
  obtain ⟨R, hR⟩ : ∃ R, R = rnum b 10 n 0 0 := ⟨_, rfl⟩
  rw [← hR]
  have HR := Aside0.mk hR
  clear hR
  go_enter Try.func20, Try.ntmps20
  go_wp2
  go_step3
  go_wp2_with (first | (go_at_call 38; refine (there _ _ _ _ _ H.out).mono ?_; rintro e w' ⟨rfl, rfl⟩))
  repeat (go_quiet (fail); try go_wp2)
  try go_step3
  go_wp2
  go_loop [4, 5, 6] (fun x i s => ∃ j m p q : Nat, j ≤ 9 ∧ p = n + j ∧ p ≤ b.length ∧ x = .int .u64 m ∧ m < 2 ^ (7 * j) ∧ i = .int .i64 (p : Int) ∧ s = .int .u64 (q : Int) ∧ q = 7 * j ∧ R = rnum b (10 - j) p q m) (fun _ i _ => b.length - (intOf i).toNat)
  case atStart => exact ⟨0, 0, n, 0, by omega, rfl, H.out.le, rfl, by decide, rfl, rfl, rfl, HR.out⟩
  case round =>
    obtain ⟨j, m, p, q, hj, hp, hl, rfl, hm, rfl, rfl, hq, hrr⟩ := hrel
    have HM := Aside0.mk hm
    have HRR := Aside0.mk hrr
    have HP := Aside0.mk hp
    have HQ := Aside0.mk hq
    clear hm hrr hp hq
    by_cases hlt : p < b.length
    · obtain ⟨ad', e', hx⟩ := Kd.at_int hr.out (p : Int) (by omega) (by omega)
      cases e'
      have hb := byt_rd H.out.byt hlt
      simp only [Int.toNat_natCast, Nat.mul_one] at hx
      obtain ⟨v, hv⟩ : ∃ v, v = rd b (p : Int) := ⟨_, rfl⟩
      rw [← hv] at hx hb
      have HV := Aside0.mk hv
      obtain ⟨v0, v1⟩ := hb
      have hw : wrap64 ((p : Int) + 1) = ((p + 1 : Nat) : Int) := by have := H.out.max; unfold wrap64; omega
      have HW := Aside0.mk hw
      clear hv hw
      have hq := HQ.out
      by_cases hbad : (q = 63 ∧ 1 < v) ∨ (0 < q ∧ v = 0)
      · have hN : R = none := by rw [HRR.out]; exact rnum_bad (by omega) (fun _ => by rw [← HV.out]; exact hbad)
        have HN := Aside0.mk hN
        clear hN hq hr cf
        rcases hbad with ⟨rfl, h1⟩ | ⟨h1, rfl⟩
        · go_wp2
          try rw [Exit.noGoto_ret]
          go_ret2
          rw [HN.out]
          exact ⟨rfl, H.out, grown_drewN _ _ _⟩
        · go_wp2
          all_goals
            try rw [Exit.noGoto_ret]
            go_ret2
            rw [HN.out]
            exact ⟨rfl, H.out, grown_drewN _ _ _⟩
      · by_cases h63 : q = 63
        · obtain ⟨h1, h2⟩ : 1 ≤ v ∧ v < 2 := by omega
          subst h63
          have g2 : (v == 0) = false := beq_eq_false_iff_ne.mpr (by omega)
          have ho := step_or m 63 v (by have := HM.out; rw [← HQ.out] at this; exact this) v0 v1 (Or.inr ⟨rfl, by omega⟩)
          rw [show (2 : Int) ^ 63 = 9223372036854775808 from by decide] at ho
          have hN : R = some (m + v.toNat % 128 * 2 ^ 63, p + 1) := by rw [HRR.out, HV.out]; exact rnum_end (by omega) hlt (by rw [← HV.out]; omega) (by rw [← HV.out]; omega)
          have HN := Aside0.mk hN
          have HO := Aside0.mk ho
          clear hN hq hr ho hbad
          go_wp2
          try rw [Exit.noGoto_ret]
          go_ret2
          rw [HN.out, HO.out, HW.out]
          exact ⟨rfl, Is.set (Is.grown H.out (grown_drewN _ _ none) (by simp) (by simp)) _ (by omega), (grown_drewN _ _ _).trans (set_grown _ _ _)⟩
        · have ho := step_or m q v (by have := HM.out; rw [← HQ.out] at this; exact this) v0 v1 (Or.inl (by omega))
          have HO := Aside0.mk ho
          have g1 : ((q : Int) == 63) = false := beq_eq_false_iff_ne.mpr (by omega)
          have hq64 : q ≤ 56 := by omega
          have hb2 : q ≤ 0 ∨ (v == 0) = false := by
            by_cases h0 : q ≤ 0
            · exact Or.inl h0
            · exact Or.inr (beq_eq_false_iff_ne.mpr (by omega))
          clear ho h63
          by_cases hsm : v < 128
          · have hN : R = some (m + v.toNat % 128 * 2 ^ q, p + 1) := by rw [HRR.out, HV.out]; exact rnum_end (by omega) hlt (by rw [← HV.out]; exact hbad) (by rw [← HV.out]; omega)
            have HN := Aside0.mk hN
            clear hN hq hr hbad
            rcases hb2 with g2 | g2 <;> go_wp2
            all_goals
              try rw [Exit.noGoto_ret]
              go_ret2
              rw [HN.out]
              exact ⟨congrArg (fun z => Ending.returned (.tuple #[.int .u64 z, .int .i64 0])) HO.out, HW.out.symm ▸ Is.set (Is.grown H.out (grown_drewN _ _ none) (by simp) (by simp)) _ (by omega), (grown_drewN _ _ _).trans (set_grown _ _ _)⟩
          · have hN : R = rnum b (10 - (j + 1)) (p + 1) (q + 7) (m + v.toNat % 128 * 2 ^ q) := by
              rw [HRR.out, HV.out, rnum_on (by omega) hlt (by rw [← HV.out]; exact hbad) (by rw [← HV.out]; omega)]
              rfl
            have HN := Aside0.mk hN
            have hms : m + v.toNat % 128 * 2 ^ q < 2 ^ (7 * (j + 1)) := by
              have h1 := HM.out
              have h2 : (v.toNat % 128 + 1) * 2 ^ q ≤ 128 * 2 ^ q := Nat.mul_le_mul_right _ (by omega)
              have h3 : 2 ^ (7 * (j + 1)) = 128 * 2 ^ q := by rw [HQ.out, Nat.mul_add, Nat.pow_add, Nat.mul_comm]
              rw [← HQ.out] at h1
              rw [h3]
              rw [Nat.add_mul] at h2
              omega
            have HMS := Aside0.mk hms
            have hp1 := HP.out
            have HJ := Aside0.mk (show j ≤ 8 by omega)
            have HL := Aside0.mk hlt
            have eq7 : (q : Int) + 7 = ((q + 7 : Nat) : Int) := by omega
            have EQ7 := Aside0.mk eq7
            clear hN hq hr hbad hms hp1 eq7
            rcases hb2 with g2 | g2 <;> go_wp2
            all_goals
              rw [HO.out, HW.out, EQ7.out]
              have hq := HQ.out
              have hp := HP.out
              have hj8 := HJ.out
              have hl2 := HL.out
              exact ⟨⟨j + 1, _, p + 1, q + 7, by omega, by omega, by omega, rfl, HMS.out, rfl, rfl, by omega, HN.out⟩, by simp [intOf]; omega⟩
    · have hN : R = none := by rw [HRR.out]; exact rnum_bad (by omega) (fun h => absurd h hlt)
      have HN := Aside0.mk hN
      clear hN hr cf
      go_wp2
      all_goals
        try rw [Exit.noGoto_ret]
        go_ret2
        rw [HN.out]
        exact ⟨rfl, H.out, grown_drewN _ _ _⟩
theorem number_some {g y : Nat} {b : List Int} {n x m : Nat} (w : World) (h : Is w g y b n) (hr : rnum b 10 n 0 0 = some (x, m)) :
    Calls Try.prog 20 #[.pointer (some ⟨g, 0, none⟩)] w fun e w' => e = .returned (.tuple #[.int .u64 x, .int .i64 0]) ∧ Is w' g y b m ∧ w.grownBy w' (some g) := by
  have := number g y b n w h
  rw [hr] at this
  exact this
theorem number_none {g y : Nat} {b : List Int} {n : Nat} (w : World) (h : Is w g y b n) (hr : rnum b 10 n 0 0 = none) :
    Calls Try.prog 20 #[.pointer (some ⟨g, 0, none⟩)] w fun e w' => e = .returned (.tuple #[.int .u64 0, .int .i64 4]) ∧ Is w' g y b n ∧ w.grownBy w' none := by
  have := number g y b n w h
  rw [hr] at this
  exact this
theorem rnum_lt (b : List Int) : ∀ (k n j m x p : Nat), k + j = 10 → m < 2 ^ (7 * j) → rnum b k n (7 * j) m = some (x, p) → x < 18446744073709551616 ∧ n < p ∧ p ≤ b.length ∧ p ≤ n + k
  | 0, n, j, m, x, p, _, _, h => by simp [rnum] at h
  | k + 1, n, j, m, x, p, hj, hm, h => by
    rw [rnum] at h
    by_cases hl : n < b.length
    · rw [if_pos hl] at h
      by_cases hb : (7 * j = 63 ∧ 1 < rd b n) ∨ (0 < 7 * j ∧ rd b n = 0)
      · rw [if_pos hb] at h
        cases h
      · rw [if_neg hb] at h
        have hb1 : ∀ z : Nat, z ≤ 127 → j ≤ 8 → m + z * 2 ^ (7 * j) < 2 ^ (7 * (j + 1)) := fun z hz _ => by
          have h3 : 2 ^ (7 * (j + 1)) = 128 * 2 ^ (7 * j) := by rw [Nat.mul_add, Nat.pow_add, Nat.mul_comm]
          have h2 : (z + 1) * 2 ^ (7 * j) ≤ 128 * 2 ^ (7 * j) := Nat.mul_le_mul_right _ (by omega)
          rw [h3]
          rw [Nat.add_mul] at h2
          omega
        by_cases h1 : rd b n < 128
        · rw [if_pos h1] at h
          simp only [Option.some.injEq, Prod.mk.injEq] at h
          obtain ⟨rfl, rfl⟩ := h
          refine ⟨?_, by omega, by omega, by omega⟩
          by_cases h9 : j ≤ 8
          · have h3 := hb1 ((rd b n).toNat % 128) (by omega) h9
            have h4 : 2 ^ (7 * (j + 1)) ≤ 2 ^ 63 := Nat.pow_le_pow_right (by decide) (by omega)
            omega
          · obtain rfl : j = 9 := by omega
            have h5 : (rd b n).toNat % 128 ≤ 1 := by omega
            have h6 : (rd b n).toNat % 128 * 2 ^ (7 * 9) ≤ 1 * 2 ^ (7 * 9) := Nat.mul_le_mul_right _ h5
            omega
        · rw [if_neg h1] at h
          by_cases h9 : j ≤ 8
          · have := rnum_lt b k (n + 1) (j + 1) _ x p (by omega) (hb1 ((rd b n).toNat % 128) (by omega) h9) h
            omega
          · obtain rfl : j = 9 := by omega
            omega
    · rw [if_neg hl] at h
      cases h
theorem rnum_bd {b : List Int} {n x p : Nat} (h : rnum b 10 n 0 0 = some (x, p)) : x < 18446744073709551616 ∧ n < p ∧ p ≤ b.length := by
  have := rnum_lt b 10 n 0 0 x p (by omega) (by decide) h
  omega
/-! ### how many -/
/-- What count answers: the error, what is there, the place behind. -/
def cnt (b : List Int) (n most : Nat) : Int × Nat × Nat := match rnum b 10 n 0 0 with
  | some (x, m) => if most < x then (3, 0, m) else (0, x, m)
  | none => (4, 0, n)
theorem count (g y : Nat) (b : List Int) (n most : Nat) (w : World) (h : Is w g y b n) (hm : most ≤ 9223372036854775807) :
    Calls Try.prog 39 #[.pointer (some ⟨g, 0, none⟩), .int .i64 most] w fun e w' => e = .returned (.tuple #[.int .i64 ((cnt b n most).2.1 : Int), .int .i64 (cnt b n most).1]) ∧ Is w' g y b (cnt b n most).2.2 ∧ w.grownBy w' (some g) := by
  have H := Aside0.mk h
  clear h
  have hw : IntKind.u64.wrap (most : Int) = (most : Int) := wrap_u64_nat most (by omega)
  cases hr : rnum b 10 n 0 0 with
  | none =>
    have hc : cnt b n most = (4, 0, n) := by unfold cnt; rw [hr]
    rw [hc]
    have HR := Aside0.mk hr
    clear hr hc
    go_enter Try.func39, Try.ntmps39
    go_wp2_with (first | (go_at_call 20; refine (number_none _ H.out HR.out).mono ?_; rintro e w' ⟨rfl, h1, h2⟩; have H1 := Aside0.mk h1; have H2 := Aside0.mk h2; clear h1 h2))
    go_ret2
    exact ⟨rfl, H1.out, World.grownBy.but H2.out _⟩
  | some q =>
    obtain ⟨x, m⟩ := q
    have HR := Aside0.mk hr
    have hx := (rnum_bd hr).1
    by_cases hlt : most < x
    · have hc : cnt b n most = (3, 0, m) := by unfold cnt; rw [hr]; exact if_pos hlt
      rw [hc]
      clear hr hc
      go_enter Try.func39, Try.ntmps39
      go_wp2_with (first | (go_at_call 20; refine (number_some _ H.out HR.out).mono ?_; rintro e w' ⟨rfl, h1, h2⟩; have H1 := Aside0.mk h1; have H2 := Aside0.mk h2; clear h1 h2))
      go_ret2
      exact ⟨rfl, H1.out, H2.out⟩
    · have hc : cnt b n most = (0, x, m) := by unfold cnt; rw [hr]; exact if_neg hlt
      rw [hc]
      have hx2 : wrap64 (x : Int) = (x : Int) := by unfold wrap64; omega
      clear hr hc
      go_enter Try.func39, Try.ntmps39
      go_wp2_with (first | (go_at_call 20; refine (number_some _ H.out HR.out).mono ?_; rintro e w' ⟨rfl, h1, h2⟩; have H1 := Aside0.mk h1; have H2 := Aside0.mk h2; clear h1 h2))
      go_ret2
      exact ⟨rfl, H1.out, H2.out⟩
/-! ### bytes -/
/-- What Bytes answers: the error, the bytes, the place behind. -/
def rbs (b : List Int) (n most : Nat) : Int × List Int × Nat := match cnt b n most with
  | (e, x, m) => if e = 0 then (if b.length - m < x then (4, [], n) else (0, (b.drop m).take x, m + x)) else (e, [], n)
/-- A row of bytes of the call's own. -/
def Own (W : World) (base : Nat) (v : Value) (xs : List Int) : Prop := Kd.R (Kd.int .u8) 5 W base (fun k => base ≤ k) v xs
theorem info_u8 : (Try.prog.info? 5).map (fun i => (i.zero, i.size, i.bytes)) = some (some (.int .u8 0), 1, 1) := by kernel_rfl
theorem Own.nil (W : World) (base : Nat) : Own W base (.slice none 0 0) [] := Kd.R_nil _ _ _ _ _
theorem own_new {W : World} (base : Nat) (hb : base ≤ W.heap.size) : Own (W.alloc (.cells #[] 5)) base (.slice (some ⟨W.heap.size, 0, none⟩) 0 0) [] := by
  refine ⟨fun k hk => ?_, [], ?_, Reps.none _ _⟩
  · have : W.heap.size = k := by simpa [Value.ownBlock] using hk
    omega
  · have h2 := World.ownsRow_lit (base := base) (e := 5) (size := 1) W #[] 0 hb (by simp [maxLen]) (by simp)
    exact h2
section
variable {ops : Array Oper} {o : Oper} {a : Act} {Q : Exit → Act → World → Prop} {K : Act → World → Prop} {E : Prop}
/-- Bytes appended to a row of the call's own, as a step of a region that draws. -/
theorem append_step {W : World} (base : Nat) (hgd : o.guard = none) (s x : Operand)
    (ho : o.op = .call { callee := .builtin .append, args := #[s, x], argTypes := #[23, 23] })
    (v : Value) (xs ys : List Int) (A : Option Addr) (m c : Nat) (hs : a.eval s = v) (hx : a.eval x = .slice A m c)
    (HO : Own W base v xs) (HR : Kd.C (Kd.int .u8) W A m ys) (hbase : base ≤ W.heap.size) (hl : xs.length + m ≤ 140737488355328)
    (h : ∀ v1 w1, Own w1 base v1 (xs ++ ys) → Below base W w1 → K (a.put o.dst v1) w1) : if Region.wanted o (yielded ops a.tmps) = true then Oper.wp Try.prog o a W K Q else E := by
  have hw : Region.wanted o (yielded ops a.tmps) = true := by simp [Region.wanted, hgd]
  have := Kd.R_append_rows_step (P := Try.prog) (Q := Q) (Kc := K) (Kd.int .u8) (Rr := (Kd.int .u8).K W) (w0 := W) base hw s x 23 5 (.int .u8 0) 1 ho Try.underlying23 info_u8 rfl (by decide) (by omega) v xs ys A m c (fun k => base ≤ k) (fun _ => False) hs hx HO HR
    (fun _ _ h => h) (fun _ h => h.elim) (fun k hk => Nat.le_trans hbase hk) (Below.refl _ _) hbase (by omega) (fun v1 w1 h1 h2 _ _ => h v1 w1 h1 h2)
  rw [if_pos hw] at this ⊢
  exact this
end
theorem cnt_le {b : List Int} {n most x m : Nat} {e : Int} (hn : n ≤ b.length) (h : cnt b n most = (e, x, m)) : n ≤ m ∧ m ≤ b.length ∧ x ≤ most := by
  unfold cnt at h
  cases hr : rnum b 10 n 0 0 with
  | none =>
    rw [hr] at h
    simp only [Prod.mk.injEq] at h
    omega
  | some q =>
    obtain ⟨y, p⟩ := q
    rw [hr] at h
    have := rnum_bd hr
    by_cases hl : most < y
    · simp only [if_pos hl, Prod.mk.injEq] at h
      omega
    · simp only [if_neg hl, Prod.mk.injEq] at h
      omega
def BytesPost (R : Int × List Int × Nat) (g y : Nat) (b : List Int) (w : World) (e : Ending) (w' : World) : Prop :=
  ∃ v : Value, e = .returned (.tuple #[v, .int .i64 R.1]) ∧ Own w' w.heap.size v R.2.1 ∧ Is w' g y b R.2.2 ∧ w.grownBy w' (some g)
set_option maxHeartbeats 4000000 in
set_option maxRecDepth 100000 in
theorem bytes (g y : Nat) (b : List Int) (n most : Nat) (w : World) (h : Is w g y b n) (hm : most ≤ 9223372036854775807) (hb : b.length ≤ 140737488355328) :
    Calls Try.prog 22 #[.pointer (some ⟨g, 0, none⟩), .int .i64 most] w (BytesPost (rbs b n most) g y b w) := by
  have H := Aside0.mk h
  have hn := h.le
  obtain ⟨ad, c, hy, c0, c1, cf, hc, hr⟩ := h.open_
  have hg := h.lt
  clear h
  cases hcnt : cnt b n most with
  | mk e q =>
  obtain ⟨x, m⟩ := q
  have HC := Aside0.mk hcnt
  obtain ⟨h1, h2, h3⟩ := cnt_le hn hcnt
  have hcount := count g y b n most w H.out hm
  rw [hcnt] at hcount
  have HN := Aside0.mk hcount
  clear hcount
  by_cases he : e = 0
  · subst he
    by_cases hlt : b.length - m < x
    · have hR : rbs b n most = (4, [], n) := by unfold rbs; rw [hcnt]; exact if_pos hlt
      rw [hR]
      have hlt2 : ((b.length - m : Nat) : Int) < (x : Int) := by omega
      clear hR hcnt
      go_enter Try.func22, Try.ntmps22
      go_wp2_with (first | (go_at_call 38; refine (there _ _ _ _ _ H.out).mono ?_; rintro e w' ⟨rfl, rfl⟩) | (go_at_call 39; refine HN.out.mono ?_; rintro e w1 ⟨rfl, hi, hgr⟩; have H1 := Aside0.mk hi; have H2 := Aside0.mk hgr; clear hi hgr) | (go_at_call 26; refine (left _ _ _ _ _ H1.out).mono ?_; rintro e w2 ⟨rfl, m2, hgr⟩; have H3 := Aside0.mk (show Is w2 g y b m by rw [hgr]; exact H1.out.drewN m2); have H4 := Aside0.mk (show w.grownBy w2 (some g) by rw [hgr]; exact H2.out.trans (grown_drewN _ m2 _)); clear hgr; obtain ⟨ad2, c2, hy2, d0, d1, df, hc2, hr2⟩ := H3.out.open_))
      go_ret2
      exact ⟨_, rfl, Own.nil _ _, (by simpa using H3.out.set n (by omega)), H4.out.trans (set_grown _ _ _)⟩
    · have hR : rbs b n most = (0, (b.drop m).take x, m + x) := by unfold rbs; rw [hcnt]; exact if_neg hlt
      rw [hR]
      have hlt2 : ¬ ((b.length - m : Nat) : Int) < (x : Int) := by omega
      clear hR hcnt
      go_enter Try.func22, Try.ntmps22
      go_wp2_with (first | (go_at_call 38; refine (there _ _ _ _ _ H.out).mono ?_; rintro e w' ⟨rfl, rfl⟩) | (go_at_call 39; refine HN.out.mono ?_; rintro e w1 ⟨rfl, hi, hgr⟩; have H1 := Aside0.mk hi; have H2 := Aside0.mk hgr; clear hi hgr) | (go_at_call 26; refine (left _ _ _ _ _ H1.out).mono ?_; rintro e w2 ⟨rfl, m2, hgr⟩; have H3 := Aside0.mk (show Is w2 g y b m by rw [hgr]; exact H1.out.drewN m2); have H4 := Aside0.mk (show w.grownBy w2 (some g) by rw [hgr]; exact H2.out.trans (grown_drewN _ m2 _)); clear hgr; obtain ⟨ad2, c2, hy2, d0, d1, df, hc2, hr2⟩ := H3.out.open_))
      have hw1 : (m : Int) + (x : Int) = ((m + x : Nat) : Int) := by omega
      rw [hw1]
      clear hw1
      obtain ⟨q, hq⟩ : ∃ q, q = m + x := ⟨_, rfl⟩
      rw [← hq]
      have H5 := Aside0.mk (H3.out.set q (by omega))
      have H6 := Aside0.mk (H4.out.trans (set_grown w2 ⟨g, 1, none⟩ (.int .i64 (q : Int))))
      generalize w2.setCell ⟨g, 1, none⟩ (.int .i64 (q : Int)) = W at H5 H6
      clear d0 d1 df hr2 H3 H4 c0 c1 cf hr
      obtain ⟨ad3, c3, hy3, k0, k1, kf, hc3, hr3⟩ := H5.out.open_
      have hw2 : IntKind.i64.wrap ((q : Int) - (x : Int)) = (m : Int) := by
        rw [show (q : Int) - (x : Int) = (m : Int) by omega]
        exact IntWalk.i64_in _ (by omega)
      obtain ⟨i5, hi5, hs5⟩ : ∃ ie, Try.prog.info? 5 = some ie ∧ ie.size = 1 := by
        have h : (Try.prog.info? 5).map (fun i => i.size) = some 1 := by kernel_rfl
        obtain ⟨ie, h1, h2⟩ := Option.map_eq_some_iff.mp h
        exact ⟨ie, h1, h2⟩
      have hcut := cut_mid (P := Try.prog) 23 5 .i64 .i64 Try.underlying23 hi5 1 hs5 (some ad3) b.length c3 (m : Int) (q : Int) (by omega) (by omega) (by omega) hc3
      have hC := Kd.C_mid (lo := m) (hi := q) (c := c3) hr3.out (by omega) (by omega) hc3
      simp only [Int.toNat_natCast] at hcut
      obtain ⟨AY, hAY⟩ : ∃ X, X = (if c3 = m then some ad3 else (some ad3).map (·.add (m * 1))) := ⟨_, rfl⟩
      replace hC : Kd.C (Kd.int .u8) W AY ((b.take q).drop m).length ((b.take q).drop m) := by rw [hAY]; exact hC
      rw [← hAY] at hcut
      have hlen : ((b.take q).drop m).length = q - m := by rw [List.length_drop, List.length_take]; omega
      rw [hlen] at hC
      have hres : (b.take q).drop m = (b.drop m).take x := by rw [hq, List.drop_take]; congr 1; omega
      rw [hres] at hC
      have HCC := Aside0.mk hC
      have hx2 : q - m ≤ 140737488355328 := by omega
      have hgw : g < W.heap.size := H5.out.lt
      have hww : w.heap.size ≤ W.heap.size := H6.out.size
      have HQ := Aside0.mk hq
      clear hC hlen hAY hres hq hlt hlt2
      go_region_held3 (fun w' => w'.cell? ⟨g, 0, none⟩ = some (.slice (some ad3) b.length c3) ∧ w'.cell? ⟨g, 1, none⟩ = some (.int .i64 (q : Int)))
        (go_keep)
        ((refine append_step w.heap.size rfl (.tmp 45) (.tmp 60) rfl (.slice (some ⟨W.heap.size, 0, none⟩) 0 0) [] ((b.drop m).take x) AY (q - m) (c3 - m) rfl rfl (own_new (W := W) _ hww) (Kd.C_below HCC.out (show Below W.heap.size W (W.alloc (.cells #[] 5)).drew from below_drew (below_alloc (Below.refl _ _) _))) (Nat.le_trans hww (below_alloc (Below.refl W.heap.size W) _).size) (by simp only [List.length_nil]; omega) ?_; intro v1 w5 ho hb5
          have k2 : w5.cell? ⟨g, 0, none⟩ = some (.slice (some ad3) b.length c3) := (hb5.cell (p := ⟨g, 0, none⟩) hg).trans ((Below.cell (p := ⟨g, 0, none⟩) (below_alloc (Below.refl W.heap.size W) (.cells #[] 5)) hgw).trans k0)
          have k3 : w5.cell? ⟨g, 1, none⟩ = some (.int .i64 (q : Int)) := (hb5.cell (p := ⟨g, 1, none⟩) hg).trans ((Below.cell (p := ⟨g, 1, none⟩) (below_alloc (Below.refl W.heap.size W) (.cells #[] 5)) hgw).trans k1)
          have HO := Aside0.mk ho
          have HB5 := Aside0.mk (show Below w.heap.size W w5 from (below_drew ((below_alloc (Below.refl W.heap.size W) (.cells #[] 5)).mono hww)).trans hb5)
          clear ho hb5))
      go_wp2
      go_ret2
      rw [← HQ.out]
      exact ⟨v1, rfl, HO.out, H5.out.under HB5.out hg (H.out.row_lt), grown_under H6.out HB5.out (Nat.le_refl _)⟩
  · have hR : rbs b n most = (e, [], n) := by unfold rbs; rw [hcnt]; exact if_neg he
    rw [hR]
    clear hR hcnt
    have g1 : (e == 0) = false := beq_eq_false_iff_ne.mpr he
    go_enter Try.func22, Try.ntmps22
    go_wp2_with (first | (go_at_call 38; refine (there _ _ _ _ _ H.out).mono ?_; rintro e w' ⟨rfl, rfl⟩) | (go_at_call 39; refine HN.out.mono ?_; rintro e w1 ⟨rfl, hi, hgr⟩; obtain ⟨ad2, c2, hy2, d0, d1, df, hc2, hr2⟩ := hi.open_; have H1 := Aside0.mk hi; have H2 := Aside0.mk hgr; clear hi hgr))
    go_ret2
    exact ⟨_, rfl, Own.nil _ _, (by simpa using H1.out.set n (by omega)), H2.out.trans (set_grown _ _ _)⟩
/-! ### is all read; flags; signed numbers; a bound below 0 -/
theorem end_ (g y : Nat) (b : List Int) (n : Nat) (w : World) (h : Is w g y b n) :
    Calls Try.prog 25 #[.pointer (some ⟨g, 0, none⟩)] w fun e w' => e = .returned (.int .i64 (if n < b.length then 4 else 0)) ∧ ∃ m, w' = w.drewN m := by
  have H := Aside0.mk h
  have hm := h.max
  clear h
  by_cases hlt : n < b.length
  · rw [if_pos hlt]
    have h1 : (0 : Int) < ((b.length - n : Nat) : Int) := by omega
    go_enter Try.func25, Try.ntmps25
    go_wp2_with (first | (go_at_call 38; refine (there _ _ _ _ _ H.out).mono ?_; rintro e w' ⟨rfl, rfl⟩) | (go_at_call 26; refine (left _ _ _ _ _ H.out).mono ?_; rintro e w2 ⟨rfl, m2, rfl⟩))
    go_ret
    exact ⟨rfl, _, rfl⟩
  · rw [if_neg hlt]
    have h1 : ((b.length - n : Nat) : Int) ≤ 0 := by omega
    go_enter Try.func25, Try.ntmps25
    go_wp2_with (first | (go_at_call 38; refine (there _ _ _ _ _ H.out).mono ?_; rintro e w' ⟨rfl, rfl⟩) | (go_at_call 26; refine (left _ _ _ _ _ H.out).mono ?_; rintro e w2 ⟨rfl, m2, rfl⟩))
    go_ret
    exact ⟨rfl, _, rfl⟩
theorem count_neg (g y : Nat) (b : List Int) (n : Nat) (most : Int) (w : World) (h : Is w g y b n) (hm : most < 0) :
    Calls Try.prog 39 #[.pointer (some ⟨g, 0, none⟩), .int .i64 most] w fun e w' => e = .returned (.tuple #[.int .i64 0, .int .i64 2]) ∧ w = w' := by
  clear h
  go_enter Try.func39, Try.ntmps39
  go_wp2
  go_ret2
  exact ⟨rfl, rfl⟩
theorem bytes_neg (g y : Nat) (b : List Int) (n : Nat) (most : Int) (w : World) (h : Is w g y b n) (hm : most < 0) :
    Calls Try.prog 22 #[.pointer (some ⟨g, 0, none⟩), .int .i64 most] w (BytesPost (2, [], n) g y b w) := by
  have H := Aside0.mk h
  obtain ⟨ad, c, hy, c0, c1, cf, hc, hr⟩ := h.open_
  have hn := h.le
  clear h
  go_enter Try.func22, Try.ntmps22
  go_wp2_with (first | (go_at_call 38; refine (there _ _ _ _ _ H.out).mono ?_; rintro e w' ⟨rfl, rfl⟩) | (go_at_call 39; refine (count_neg _ _ _ _ _ _ H.out hm).mono ?_; rintro e w1 ⟨rfl, rfl⟩))
  go_ret2
  exact ⟨_, rfl, Own.nil _ _, (by simpa using H.out.set n (by omega)), set_grown _ _ _⟩
/-! ### appends in a region that does not draw; Open -/
section
variable {ops : Array Oper} {o : Oper} {a : Act} {Q : Exit → Act → World → Prop} {rest : List Oper}
theorem append_list {W : World} (base : Nat) (hgd : o.guard = none) (s x : Operand)
    (ho : o.op = .call { callee := .builtin .append, args := #[s, x], argTypes := #[23, 23] })
    (v : Value) (xs ys : List Int) (A : Option Addr) (m c : Nat) (hs : a.eval s = v) (hx : a.eval x = .slice A m c)
    (HO : Own W base v xs) (HR : Kd.C (Kd.int .u8) W A m ys) (hbase : base ≤ W.heap.size) (hl : xs.length + m ≤ 140737488355328)
    (h : ∀ v1 w1, Own w1 base v1 (xs ++ ys) → Below base W w1 → W.grownBy w1 v.ownBlock → (v1.ownBlock = v.ownBlock ∨ ∃ b, v1.ownBlock = some b ∧ W.heap.size ≤ b) → wpList Try.prog ops Q rest (a.put o.dst v1) w1) : wpList Try.prog ops Q (o :: rest) a W :=
  Kd.R_append_rows (P := Try.prog) (Kd.int .u8) (Rr := (Kd.int .u8).K W) (w0 := W) base hgd s x 23 5 (.int .u8 0) 1 ho Try.underlying23 info_u8 rfl (by decide) (by omega) v xs ys A m c (fun k => base ≤ k) (fun _ => False) hs hx HO HR
    (fun _ _ h => h) (fun _ h => h.elim) (fun k hk => Nat.le_trans hbase hk) (Below.refl _ _) hbase (by omega) (fun v1 w1 h1 h2 h3 h4 => h v1 w1 h1 h2 h3 h4)
end
theorem own_cap {W : World} (base : Nat) (cs : Array Value) (m : Nat) (hb : base ≤ W.heap.size) (hm : m ≤ maxLen) (hs : cs.size = m) : Own (W.alloc (.cells cs 5)) base (.slice (some ⟨W.heap.size, 0, none⟩) 0 m) [] := by
  refine ⟨fun k hk => ?_, [], ⟨rfl, .inr ⟨W.heap.size, m, cs, rfl, hb, blk_new W _, Nat.zero_le _, hm, by show cs.size = m * 1; omega, by simp⟩⟩, Reps.none _ _⟩
  have : W.heap.size = k := by simpa [Value.ownBlock] using hk
  omega
theorem make_cap (n : Nat) (hn : n ≤ 281474976710656) : ∀ u : World, (Instr.makeSlice 23 (.int .i64 0) (.int .i64 (n : Int))).run Try.prog u = .ok (.slice (some ⟨u.heap.size, 0, none⟩) 0 n) (u.alloc (.cells (madeCells #[.int .u8 0] n) 5)) := fun u => by
  obtain ⟨i0, hi, hzz⟩ := Option.map_eq_some_iff.1 info_u8
  simp only [Prod.mk.injEq] at hzz
  obtain ⟨hz0, hz1, hz2⟩ := hzz
  have h := run_make (P := Try.prog) u 23 5 i0 (.int .u8 0) Try.underlying23 hi hz0 .i64 .i64 0 (n : Int) (by omega) (by omega) (by rw [hz2]; omega) (by omega)
  simpa [hz1, Value.cells] using h
theorem Own.reads {W : World} {base : Nat} {v : Value} {xs : List Int} (h : Own W base v xs) : ∃ A c, v = .slice A xs.length c ∧ xs.length ≤ c ∧ Kd.C (Kd.int .u8) W A xs.length xs ∧ ∀ ad, A = some ad → base ≤ ad.block ∧ ad.block < W.heap.size := by
  obtain ⟨A, c, e, hc, hC⟩ := Kd.R_reads h
  refine ⟨A, c, e, hc, hC, fun ad he => ?_⟩
  subst he
  have hk : v.ownBlock = some ad.block := by rw [e]; rfl
  obtain ⟨inner, ho⟩ := Kd.R_own h
  exact ⟨h.1 ad.block hk, own_lt ho _ hk⟩
def OpenPost (b : List Int) (w : World) (e : Ending) (w' : World) : Prop := ∃ g y : Nat, e = .returned (.pointer (some ⟨g, 0, none⟩)) ∧ Is w' g y b 0 ∧ w.heap.size ≤ y ∧ w.heap.size ≤ g ∧ Below w.heap.size w w'
set_option maxHeartbeats 4000000 in
set_option maxRecDepth 100000 in
theorem open_ (A : Option Addr) (c : Nat) (b : List Int) (w : World) (hC : Kd.C (Kd.int .u8) w A b.length b) (hc : b.length ≤ c) (hB : Byt b) (hl : b.length < 140737488355328) :
    Calls Try.prog 19 #[.slice A b.length c] w (OpenPost b w) := by
  have HC := Aside0.mk hC
  have HB := Aside0.mk hB
  have hmk := make_cap (b.length + 1) (by omega)
  have e1 : ((b.length : Int) + 1) = ((b.length + 1 : Nat) : Int) := by omega
  have e2 : (madeCells #[.int .u8 0] (b.length + 1)).size = b.length + 1 := by simp [size_madeCells]
  generalize (madeCells #[Value.int .u8 0] (b.length + 1)) = cs at hmk e2
  obtain ⟨q, hq⟩ : ∃ q, q = b.length + 1 := ⟨_, rfl⟩
  rw [← hq] at hmk e1 e2
  have E2 := Aside0.mk e2
  have HQ := Aside0.mk hq
  clear hC hB e2 hq
  go_enter Try.func19, Try.ntmps19
  go_wp2_with (first | ((with_reducible refine gate_builtin (b := .append) (xs := #[.tmp 6, .tmp 7]) rfl ?_); at_builtin; refine append_list w.heap.size rfl (.tmp 6) (.tmp 7) rfl (.slice (some ⟨w.heap.size, 0, none⟩) 0 q) [] b A b.length c rfl rfl (own_cap (W := w) w.heap.size cs q (Nat.le_refl _) (by have := HQ.out; simp only [maxLen]; omega) E2.out) (Kd.C_below HC.out (below_alloc (Below.refl _ _) _)) (by simp) (by simp only [List.length_nil]; omega) ?_; intro v1 w1 ho hb1 hg1 hat; obtain ⟨A1, c1, e3, hc1, hC1, hlo⟩ := Own.reads ho; subst e3; have HB1 := Aside0.mk hb1; have HC1 := Aside0.mk hC1; clear ho hb1 hg1))
  obtain ⟨ad, rfl⟩ : ∃ ad, A1 = some ad := by
    cases A1 with
    | none => rcases hat with h | ⟨b', h, _⟩ <;> simp [Value.ownBlock] at h
    | some ad => exact ⟨ad, rfl⟩
  obtain ⟨h1, h2⟩ := hlo ad rfl
  have hb2 : Below w1.heap.size w1 (w1.alloc (.cells #[.slice (some ad) b.length c1, .int .i64 0] 73)) := below_alloc (Below.refl _ _) _
  have hw1 : Below w.heap.size w w1 := ((below_alloc (Below.refl w.heap.size w) (.cells cs 5))).trans HB1.out
  have hbw : Below w.heap.size w (w1.alloc (.cells #[.slice (some ad) b.length c1, .int .i64 0] 73)) := below_step hw1 hb2
  go_ret
  exact ⟨w1.heap.size, ad.block, rfl, ⟨ad, c1, by simpa using heap_alloc_new w1 _, hc1, Kd.C_below HC1.out hb2, rfl, by omega, Nat.zero_le _, HB.out⟩, h1, hw1.size, hbw⟩
/-- A row of rows, element i. -/
theorem C_row_get {w : World} {A : Option Addr} {l : List (List Int)} (h : Kd.C (Kd.slice 5 (Kd.int .u8)) w A l.length l) (i : Nat) (hi : i < l.length) :
    ∃ (ad : Addr) (B : Option Addr) (c : Nat), A = some ad ∧ w.cell? (ad.add i) = some (.slice B l[i].length c) ∧ l[i].length ≤ c ∧ Kd.C (Kd.int .u8) w B l[i].length l[i] := by
  obtain ⟨ad, e, hc⟩ := h.2.2 (by omega)
  obtain ⟨cs, hl, ⟨B, c, hcs, hbc, hC⟩, hcell⟩ := hc i l[i] (List.getElem?_eq_getElem hi)
  subst hcs
  have := hcell 0 _ rfl
  rw [show i * (Kd.slice 5 (Kd.int .u8)).sz + 0 = i from by show i * 1 + 0 = i; omega] at this
  exact ⟨ad, B, c, e, this, hbc, hC⟩
/-! ### a number's form -/
/-- A literal's bytes, just laid. -/
theorem C_lit (W : World) (k : IntKind) (t : TypeId) (xs : List Int) (hl : xs.length ≤ 9223372036854775807) : Kd.C (Kd.int k) (W.alloc (.cells (xs.map (Value.int k)).toArray t)) (some ⟨W.heap.size, 0, none⟩) xs.length xs := by
  refine ⟨rfl, hl, fun _ => ⟨_, rfl, fun j p hj => ⟨[.int k p], rfl, rfl, fun i u hu => ?_⟩⟩⟩
  have hi : i = 0 ∧ u = .int k p := by
    match i, hu with
    | 0, hu => simp at hu; exact ⟨rfl, hu.symm⟩
    | i + 1, hu => simp at hu
  obtain ⟨rfl, rfl⟩ := hi
  have e : (⟨W.heap.size, 0, none⟩ : Addr).add (j * 1 + 0) = ⟨W.heap.size, j, none⟩ := by rw [add_plain]; simp
  show _ = _
  rw [show (Kd.int k).sz = 1 from rfl, e, blk_cell (blk_new W _) j]
  simp [hj]
theorem Own.below {w W : World} {base : Nat} {v : Value} {xs : List Int} (h : Own w base v xs) (hb : Below w.heap.size w W) : Own W base v xs := Kd.R_below h hb
def wnumF : Nat → Nat → List Int
  | 0, n => [(n : Int)]
  | k + 1, n => if 127 < n then ((n % 128 + 128 : Nat) : Int) :: wnumF k (n / 128) else [(n : Int)]
/-- A number's form. -/
def wnum (n : Nat) : List Int := wnumF 9 n
theorem or128 (n : Nat) : bits .or .u8 ((n : Int) % 256) 128 = ((n % 128 + 128 : Nat) : Int) := by
  have e : (n : Int) % 256 = ((n % 256 : Nat) : Int) := by omega
  rw [e, show (128 : Int) = ((128 : Nat) : Int) from rfl, u8_or_nat (n % 256) 128 (by omega) (by omega)]
  congr 1
  have h1 : n % 256 = n % 128 + 128 * (n / 128 % 2) := by omega
  rcases Nat.mod_two_eq_zero_or_one (n / 128) with h | h
  · rw [h1, h, Nat.mul_zero, Nat.add_zero, Nat.or_comm, nat_join 7 128 (n % 128) (by decide) (by omega), Nat.add_comm]
  · rw [h1, h, Nat.mul_one]
    have h2 : n % 128 + 128 = 128 ||| n % 128 := by rw [nat_join 7 128 (n % 128) (by decide) (by omega), Nat.add_comm]
    rw [h2, Nat.or_comm, ← Nat.or_assoc, Nat.or_self]
def NumFormPost (n : Nat) (w : World) (e : Ending) (w' : World) : Prop := ∃ v : Value, e = .returned v ∧ Own w' w.heap.size v (wnum n) ∧ Below w.heap.size w w'
set_option maxHeartbeats 4000000 in
set_option maxRecDepth 100000 in
theorem numForm (n : Nat) (w : World) (hn : n < 18446744073709551616) :
    Calls Try.prog 9 #[.int .u64 n] w (NumFormPost n w) := by
  have hmk := make_cap 10 (by omega)
  have e2 : (madeCells #[.int .u8 0] 10).size = 10 := by simp [size_madeCells]
  generalize (madeCells #[Value.int .u8 0] 10) = cs at hmk e2
  have E2 := Aside0.mk e2
  have hmk' : ∀ u : World, (Instr.makeSlice 23 (.int .i64 0) (.int .i64 10)).run Try.prog u = .ok (.slice (some ⟨u.heap.size, 0, none⟩) 0 10) (u.alloc (.cells cs 5)) := hmk
  clear e2 hmk
  have HN := Aside0.mk hn
  clear hn
  go_enter Try.func9, Try.ntmps9
  go_wp2
  have HB0 := Aside0.mk (below_alloc (Below.refl w.heap.size w) (.cells cs 5))
  have HO0 := Aside0.mk (own_cap (W := w) w.heap.size cs 10 (Nat.le_refl _) (by simp [maxLen]) E2.out)
  clear hmk'
  generalize w.alloc (.cells cs 5) = w0 at HB0 HO0
  generalize (Value.slice (some ⟨w.heap.size, 0, none⟩) 0 10) = v0 at HO0
  go_loopw [0, 3] (fun x v w' => ∃ (m k : Nat) (xs : List Int), x = .int .u64 m ∧ Aside0 (Own w' w.heap.size v xs) ∧ Aside0 (xs ++ wnumF k m = wnum n) ∧ Aside0 (m < 2 ^ (7 * (k + 1))) ∧ Aside0 (xs.length + k = 9) ∧ Aside0 (Below w.heap.size w w')) (fun x _ _ => (intOf x).toNat)
  case atStart => exact ⟨n, 9, [], rfl, HO0, ⟨rfl⟩, ⟨by have := HN.out; omega⟩, ⟨rfl⟩, HB0⟩
  case round =>
    obtain ⟨m, k, xs, rfl, ho, hx, hm, hk, hB⟩ := hrel
    clear HB0 HO0
    by_cases hlt : 127 < m
    · obtain ⟨k', rfl⟩ : ∃ k', k = k' + 1 := by
        cases k with
        | zero => have := hm.out; omega
        | succ k' => exact ⟨k', rfl⟩
      obtain ⟨z, hz⟩ : ∃ z, z = bits .or .u8 ((m : Int) % 256) 128 := ⟨_, rfl⟩
      have HZ := Aside0.mk (hz.trans (or128 m))
      have hz2 := hz.symm
      clear hz
      go_wp2_with (first | ((with_reducible refine gate_builtin (b := .append) (xs := #[.tmp 9, .tmp 13]) rfl ?_); at_builtin; refine append_list w.heap.size rfl (.tmp 9) (.tmp 13) rfl u3 xs [z] (some ⟨wr.heap.size, 0, none⟩) 1 1 rfl rfl (ho.out.below (below_alloc (Below.refl _ _) _)) (C_lit wr .u8 5 [z] (by simp)) (by have := hB.out.size; simp; omega) (by have := hk.out; omega) ?_; intro v1 w1 ho1 hb1 hg1 hat; have HO1 := Aside0.mk ho1; have HB1 := Aside0.mk hb1; clear ho1 hb1 hg1 hat))
      have hk' := hk.out
      have hm' := hm.out
      have e7 : (m : Int) / 128 = ((m / 128 : Nat) : Int) := by omega
      have hb : Below w.heap.size w w1 := (hB.out.trans ((below_alloc (Below.refl wr.heap.size wr) (.cells #[.int .u8 z] 5)).mono hB.out.size)).trans HB1.out
      refine ⟨⟨m / 128, k', xs ++ [z], by rw [e7], HO1, ⟨?_⟩, ⟨?_⟩, ⟨by simp; omega⟩, ⟨hb⟩⟩, by simp [intOf]; omega⟩
      · have := hx.out
        rw [wnumF, if_pos hlt, ← HZ.out] at this
        simpa using this
      · have h3 : 2 ^ (7 * (k' + 1 + 1)) = 128 * 2 ^ (7 * (k' + 1)) := by rw [Nat.mul_add 7 (k' + 1) 1, Nat.pow_add, Nat.mul_comm]
        omega
    · have HX : xs ++ [(m : Int)] = wnum n := by
        have := hx.out
        cases k with
        | zero => exact this
        | succ k => rw [wnumF, if_neg hlt] at this; exact this
      have HXX := Aside0.mk HX
      clear HX
      go_wp2_with (first | ((with_reducible refine gate_builtin (b := .append) (xs := #[.tmp 15, .tmp 18]) rfl ?_); at_builtin; refine append_list w.heap.size rfl (.tmp 15) (.tmp 18) rfl u3 xs [(m : Int)] (some ⟨wr.heap.size, 0, none⟩) 1 1 rfl rfl (ho.out.below (below_alloc (Below.refl _ _) _)) (C_lit wr .u8 5 [(m : Int)] (by simp)) (by have := hB.out.size; simp; omega) (by have := hk.out; omega) ?_; intro v1 w1 ho1 hb1 hg1 hat; have HO1 := Aside0.mk ho1; have HB1 := Aside0.mk hb1; clear ho1 hb1 hg1 hat))
      go_ret
      have hb : Below w.heap.size w w1 := (hB.out.trans ((below_alloc (Below.refl wr.heap.size wr) (.cells #[.int .u8 (m : Int)] 5)).mono hB.out.size)).trans HB1.out
      exact ⟨v1, rfl, by rw [← HXX.out]; exact HO1.out, hb⟩
theorem wnumF_len : ∀ k n, (wnumF k n).length ≤ k + 1
  | 0, n => by simp [wnumF]
  | k + 1, n => by
    rw [wnumF]
    split
    · have := wnumF_len k (n / 128); simp; omega
    · simp
theorem wnum_len (n : Nat) : (wnum n).length ≤ 10 := wnumF_len 9 n
/-- A call that makes a row of bytes. -/
def FormPost (xs : List Int) (w : World) (e : Ending) (w' : World) : Prop := ∃ v : Value, e = .returned v ∧ Own w' w.heap.size v xs ∧ Below w.heap.size w w'
set_option maxHeartbeats 4000000 in
set_option maxRecDepth 100000 in
theorem bytesForm (A : Option Addr) (c : Nat) (b : List Int) (w : World) (hC : Kd.C (Kd.int .u8) w A b.length b) (hc : b.length ≤ c) (hl : b.length ≤ 140737488355318) :
    Calls Try.prog 8 #[.slice A b.length c] w (FormPost (wnum b.length ++ b) w) := by
  have HC := Aside0.mk hC
  have HN := Aside0.mk (numForm b.length w (by omega))
  have hwl := wnum_len b.length
  have e1 : IntKind.u64.wrap (b.length : Int) = (b.length : Int) := wrap_u64_nat _ (by omega)
  clear hC
  go_enter Try.func8, Try.ntmps8
  go_wp2_with (first | (go_at_call 9; refine HN.out.mono ?_; rintro e w1 ⟨v, rfl, ho, hb⟩; have HO := Aside0.mk ho; have HB := Aside0.mk hb; clear ho hb) | ((with_reducible refine gate_builtin (b := .append) (xs := #[.tmp 6, .tmp 7]) rfl ?_); at_builtin; refine append_list w.heap.size rfl (.tmp 6) (.tmp 7) rfl v (wnum b.length) b A b.length c rfl rfl HO.out (Kd.C_below HC.out HB.out) HB.out.size (by omega) ?_; intro v1 w2 ho1 hb1 hg1 hat; have HO1 := Aside0.mk ho1; have HB1 := Aside0.mk hb1; clear ho1 hb1 hg1 hat))
  go_ret
  exact ⟨v1, rfl, HO1.out, HB.out.trans HB1.out⟩
/-! ### rows of rows -/
/-- A row of rows of the call's own. -/
def Rows (W : World) (base : Nat) (v : Value) (l : List (List Int)) : Prop := Kd.S (Kd.slice 5 (Kd.int .u8)) 23 W base (fun _ => True) v l
theorem info_row : (Try.prog.info? 23).map (fun i => (i.zero, i.size, i.bytes)) = some (some (.slice none 0 0), 1, 24) := by kernel_rfl
theorem Rows.nil (W : World) (base : Nat) : Rows W base (.slice none 0 0) [] := Kd.S_nil _ _ _ _ _
theorem Rows.below {w W : World} {base : Nat} {v : Value} {l : List (List Int)} (h : Rows w base v l) (hb : Below w.heap.size w W) : Rows W base v l := Kd.S_below h hb
theorem Rows.grown {w W : World} {base g : Nat} {v : Value} {l : List (List Int)} (h : Rows w base v l) (hb : w.grownBy W (some g)) (hg : g < base) : Rows W base v l :=
  Kd.S_mono (Kd.S_step (Kd.S_bound h) (fun k hk hlt => hb.block k hlt (fun e => by have h1 := hk.2.1; have h2 := Option.some.inj e; omega))) (fun _ _ => trivial)
theorem Own.grown {w W : World} {base g : Nat} {v : Value} {xs : List Int} (h : Own w base v xs) (hb : w.grownBy W (some g)) (hg : g < base) : Own W base v xs :=
  Kd.R_grown h hb (fun k hk e => by have h2 := Option.some.inj e; omega)
theorem Own.lower {w : World} {base base' : Nat} {v : Value} {xs : List Int} (h : Own w base v xs) (hb : base' ≤ base) : Own w base' v xs := Kd.R_mono (Kd.R_lower h hb) (fun _ hk => Nat.le_trans hb hk)
section
variable {ops : Array Oper} {o : Oper} {a : Act} {Q : Exit → Act → World → Prop} {rest : List Oper}
/-- A fresh row appended to a row of rows: the elder row stood in W1, the fresh one was made behind it. -/
theorem rows_append {W1 W : World} (base : Nat) (hgd : o.guard = none) (s x : Operand) (t : TypeId)
    (ho : o.op = .call { callee := .builtin .append, args := #[s, x], argTypes := #[t, t] }) (ht : Try.prog.underlying t = some (.slice 23))
    (v : Value) (l : List (List Int)) (u : Value) (y : List Int) (hs : a.eval s = v) (hx : a.eval x = .slice (some ⟨W.heap.size, 0, none⟩) 1 1)
    (HO : Rows W1 base v l) (hsz : W1.heap.size ≤ W.heap.size) (hm : ∀ k, base ≤ k → k < W1.heap.size → W.heap[k]? = W1.heap[k]?) (HE : Own W W1.heap.size u y) (hbase : base ≤ W1.heap.size) (hl : (l.length + 1) * 24 ≤ 140737488355328)
    (h : ∀ v1 w1, Rows w1 base v1 (l ++ [y]) → Below base W w1 → wpList Try.prog ops Q rest (a.put o.dst v1) w1) : wpList Try.prog ops Q (o :: rest) a (W.alloc (.cells #[u] 23)) := by
  obtain ⟨A2, c2, rfl⟩ := Kd.R_slice HE
  have hlt : ∀ k, v.ownBlock = some k → k < W1.heap.size := Kd.S_lt HO
  have hge : ∀ k, (Value.slice A2 y.length c2).ownBlock = some k → W1.heap.size ≤ k := fun k hk => HE.1 k hk
  have hne : ∀ k, (Value.slice A2 y.length c2).ownBlock = some k → some k ≠ v.ownBlock := fun k hk e => by have := hge k hk; have := hlt k e.symm; omega
  refine Kd.S_append (P := Try.prog) (Kd.slice 5 (Kd.int .u8)) (w0 := W) base hgd s x t 23 (.slice none 0 0) 24 ho ht info_row rfl (by decide) (by omega) v l y [.slice A2 y.length c2] (fun _ => True) (fun k => some k = (Value.slice A2 y.length c2).ownBlock) hs hx
    (Kd.M_row (Kd.R_tight rfl (Kd.R_lower HE hbase))) (fun k hk => ⟨trivial, hne k hk.symm⟩) (fun _ _ => trivial) ?_ (Below.refl _ _) (Nat.le_trans hbase hsz) hl (fun v1 w1 h1 h2 _ _ => h v1 w1 h1 h2)
  exact Kd.S_mono (Kd.S_step (Kd.S_bound HO) (fun k hk hlt => hm k hk.2.1 hlt)) (fun k hk => ⟨trivial, fun e => by have h1 := hge k e.symm; have h2 := hk.2.2.1; omega⟩)
end
/-- Values that are functions are no nil. -/
theorem run_equalIn_func_nil {t : TypeId} {ps rs : Array TypeId} {v : Bool} (ht : Try.prog.underlying t = some (.func ps rs v)) (d : Nat) (f : FuncId) (a b : Array Value) (w : World) : (Op.equalIn (d + 1) t (.func (.func f) a b) .nilFunc).run Try.prog w = .ok false w := by
  simp [Op.equalIn, run_underlying ht]
theorem run_eql_func_nil {t : TypeId} {ps rs : Array TypeId} {v : Bool} (ht : Try.prog.underlying t = some (.func ps rs v)) (f : FuncId) (a b : Array Value) (w : World) : (Go.binOp .eql t (.func (.func f) a b) .nilFunc).run Try.prog w = .ok (.bool false) w := by
  simp only [Go.binOp]
  simp [Op.equal, Op.maxDepth, run_equalIn_func_nil ht 9999]
end Go.Proofs.Ytmghnbdbhdljjaa.Rd
