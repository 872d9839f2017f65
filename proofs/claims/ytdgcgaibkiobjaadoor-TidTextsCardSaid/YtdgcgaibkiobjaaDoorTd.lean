/- tid: the chapter's own rows. -/
import Derived.Test.YtdgcgaibkiobjaaDoorProg
import Derived.Below
import Derived.Deep.Draws
import Derived.Deep.AppendLies
import Derived.Maps.AppendAt
import Derived.OwnWalk
import Derived.Laws.BytesArg
import Derived.Laws.MakeOwn
import Derived.Laws.OwnMore
import Derived.Deep.OwnRows
import Derived.Tactics
import Derived.Lib.ConvBytes
import Derived.Laws.Slices
import Derived.WalkKit
import Derived.KernelRfl
import Derived.RowKit3
import Derived.Deep.LoopGhost
import Derived.Deep.QuietTactic
import Derived.BigQuiet
import Derived.WideLaws
import Derived.Deep.DeepCutAuto
import Derived.Deep.CutBlock
import Derived.Deep.RegionHeld3
import Derived.Laws.Rows
import Derived.Lib.AppendStr
import Derived.ArgAppend
import Derived.Laws.IdiomCopy
import Derived.OrdersHeld
import Derived.Laws.BitsLemmas
import Derived.RowKit
import Derived.Lib.BytesEntry
import Derived.Test.YtdgcgaibkiobjaaDoorWWords
import Derived.Test.YtdgcgaibkiobjaaDoorWLast
import Derived.Test.YtdgcgaibkiobjaaDoorWTab
import Derived.Test.YtdgcgaibkiobjaaDoorWFour
import Derived.Test.YtdgcgaibkiobjaaDoorWQPut
import Derived.Test.YtdgcgaibkiobjaaDoorWApart
import Derived.Test.YtdgcgaibkiobjaaDoorWArr
import Derived.Test.YtdgcgaibkiobjaaDoorWZeros
import Derived.Test.YtdgcgaibkiobjaaDoorWFoot
import Derived.Test.YtdgcgaibkiobjaaDoorWKept
import Derived.Test.YtdgcgaibkiobjaaDoorWShare
import Derived.Test.YtdgcgaibkiobjaaDoorWN
import Derived.Test.YtdgcgaibkiobjaaDoorWFootNe
import Derived.Test.YtdgcgaibkiobjaaDoorWAt
import Derived.Test.YtdgcgaibkiobjaaDoorWEqStruct
import Derived.Test.YtdgcgaibkiobjaaDoorWRepsOne
import Derived.Test.YtdgcgaibkiobjaaDoorWInv
import Derived.Test.YtdgcgaibkiobjaaDoorWInvWords
import Derived.Test.YtdgcgaibkiobjaaDoorWGuard
import Derived.Test.YtdgcgaibkiobjaaDoorWNEv
import Derived.Test.YtdgcgaibkiobjaaDoorWMore
import Derived.OwnWalkIn
import Derived.TacticsInMore
import Derived.LoopNIn
import Derived.LoopIn
import Derived.Maps.AppendAt
import Derived.Maps.Range
import Derived.StillTailTactics
import Derived.WalkSpells
import Derived.IntWalk
import Derived.Laws.BitsAllLaws
import Derived.WalkMore
import Derived.Laws.Cover3
import Derived.Test.YtdgcgaibkiobjaaDoorU64
import Derived.Test.YtdgcgaibkiobjaaDoorTt
import Derived.Test.YtdgcgaibkiobjaaDoorTc
namespace Go.Proofs.YtdgcgaibkiobjaaDoor.Tk
open Go.RowKit Go.Proofs.YtdgcgaibkiobjaaDoorW.PrintWords Go.Proofs.YtdgcgaibkiobjaaDoorW.PrintLast Go.Proofs.YtdgcgaibkiobjaaDoorW.PrintMore
set_option linter.unusedVariables false
set_option linter.unusedSimpArgs false
open Go.Proofs.YtdgcgaibkiobjaaDoor.Shf
def CutPost (w : World) (pa pb : ByteArray) (en : Ending) (w' : World) : Prop := en = .returned (.tuple #[.string pa, .string pb, .bool true]) ∧ Below w.heap.size w w'
theorem cut_in (s pa pb : ByteArray) (i : Nat) (w : World) (hi : Lib.indexByte s.data.toList 46 = (i : Int)) (hi2 : i + 1 < 1000)
    (ha : ∀ W : World, (Instr.slice 9 (.string s) none (some (.int .i64 (i : Int))) none).run Tryd.prog W = .ok (.string pa) W)
    (hb : ∀ W : World, (Instr.slice 9 (.string s) (some (.int .i64 ((i : Int) + 1))) none none).run Tryd.prog W = .ok (.string pb) W) :
    Calls Tryd.prog 42 #[.string s, .string ⟨#[46]⟩] w (CutPost w pa pb) := by
  have CI := Aside0.mk (fun W : World => sh_stringslite_Index_one s 46 W)
  rw [hi] at CI
  have hw : wrap64 ((i : Int) + 1) = (i : Int) + 1 := by unfold wrap64; omega
  have h0 : (0 : Int) ≤ (i : Int) := by omega
  clear hi
  go_enter Tryd.func42, Tryd.ntmps42
  go_wp2_with (first | (go_at_call 53; refine (CI.out _).mono ?_; rintro en w' ⟨rfl, rfl⟩))
  repeat (go_quiet (fail); try go_wp2)
  try rw [Exit.noGoto_ret]
  go_ret3
  exact ⟨rfl, pw_below_drewN (Below.refl _ _) _⟩
theorem cut_at (s pa pb : ByteArray) (i : Nat) (w : World) (hi : Lib.indexByte s.data.toList 46 = (i : Int)) (hi2 : i + 1 < 1000)
    (ha : ∀ W : World, (Instr.slice 9 (.string s) none (some (.int .i64 (i : Int))) none).run Tryd.prog W = .ok (.string pa) W)
    (hb : ∀ W : World, (Instr.slice 9 (.string s) (some (.int .i64 ((i : Int) + 1))) none none).run Tryd.prog W = .ok (.string pb) W) :
    Calls Tryd.prog 32 #[.string s, .string ⟨#[46]⟩] w (CutPost w pa pb) := by
  have CI := Aside0.mk (cut_in s pa pb i w hi hi2 ha hb)
  clear hi hi2 ha hb
  go_enter Tryd.func32, Tryd.ntmps32
  go_wp2_with (first | (go_at_call 42; refine CI.out.mono ?_; rintro en w' ⟨rfl, hb⟩))
  go_ret3
  exact ⟨rfl, hb⟩
theorem trim_at (s : ByteArray) (l : List UInt8) (w : World) (hs : s.size ≤ 1000) (hl : Lib.trimRightS s.data.toList [76, 68, 65] = l) : Calls Tryd.prog 31 #[.string s, .string ⟨#[76, 68, 65]⟩] w fun en w' => en = .returned (.string ⟨l.toArray⟩) ∧ Below w.heap.size w w' := by
  have h := Any.strings_TrimRight_laid sh_lays162 (by kernel_rfl) s ⟨#[76, 68, 65]⟩ w (by omega) (by decide) (by intro j b hb; match j, hb with | 0, hb => cases hb; decide | 1, hb => cases hb; decide | 2, hb => cases hb; decide | k + 3, hb => simp at hb)
  rw [← hl]
  exact h
theorem below_bytes (w : World) (e : TypeId) (t : ByteArray) : Below w.heap.size w (Lib.bytesWorld w e t) := Lib.bytesWorld_below _ _ _
theorem parse32_at (s : ByteArray) (v : Int) (w : World) (hs : s.size ≤ 1000) (h : Lib.parseIntB 32 s.data.toList = .ok v) : Calls Tryd.prog 33 #[.string s, .int .i64 10, .int .i64 32] w fun en w' => (∃ u, en = .returned (.tuple #[.int .i64 v, u])) ∧ Below w.heap.size w w' :=
  (sh_strconv_ParseInt_10_at32_ok s (by omega) v h w).mono fun en w' ⟨h1, h2⟩ => ⟨⟨_, h1⟩, by rcases h2 with rfl | ⟨t, rfl⟩; exact Below.refl _ _; exact below_bytes w _ t⟩
theorem parse64_at (s : ByteArray) (v : Int) (w : World) (hs : s.size ≤ 1000) (h : Lib.parseIntB 64 s.data.toList = .ok v) : Calls Tryd.prog 33 #[.string s, .int .i64 10, .int .i64 64] w fun en w' => (∃ u, en = .returned (.tuple #[.int .i64 v, u])) ∧ Below w.heap.size w w' :=
  (sh_strconv_ParseInt_10_at64_ok s (by omega) v h w).mono fun en w' ⟨h1, h2⟩ => ⟨⟨_, h1⟩, by rcases h2 with rfl | ⟨t, rfl⟩; exact Below.refl _ _; exact below_bytes w _ t⟩
theorem text_at (x : Int) (e n : Nat) (l d a : Bool) (w : World) (x0 : 0 ≤ x) (x1 : x < 288230376151711744) (he : x / 17179869184 % 16777216 = (e : Int)) (hn : x / 8 % 2147483648 = (n : Int)) (e9 : e < 10) (n9 : n < 10) (se sn : ByteArray) (hse : (⟨(Lib.decDigits e).toArray⟩ : ByteArray) = se) (hsn : (⟨(Lib.decDigits n).toArray⟩ : ByteArray) = sn) (ze : se.size ≤ 100) (zn : sn.size ≤ 100) (hl : decide (x / 1 % 2 = 1) = l) (hd : decide (x / 2 % 2 = 1) = d) (ha : decide (x / 4 % 2 = 1) = a) :
    Calls Tryd.prog 11 #[.int .u64 x] w (TextPost w (textOf se sn l d a)) := by
  have y1 : x < 18446744073709551616 := by omega
  refine text_walk (fun _ => True) (fun _ _ _ _ => trivial) x e n l d a _ _ ?_ ?_ ?_ ?_ ?_ ?_ ?_ ?_ ze zn w trivial
  · intro W; have h := may_c x W x0 y1; rw [decide_eq_true x1] at h; exact h
  · intro W; have h := epoch_c x W x0 y1; rw [he] at h; exact h
  · intro W; have h := number_c x W x0 y1; rw [hn] at h; exact h
  · intro W _; rw [← hse]; exact (sh_strconv_FormatInt_10_small e (by omega) W).mono fun en w' ⟨h1, h2⟩ => ⟨h1, by rw [h2]; exact Below.refl _ _⟩
  · intro W _; rw [← hsn]; exact (sh_strconv_FormatInt_10_small n (by omega) W).mono fun en w' ⟨h1, h2⟩ => ⟨h1, by rw [h2]; exact Below.refl _ _⟩
  · rw [bit_eq x x0 y1 0 (by omega) 1 (by decide), hl]
  · rw [bit_eq x x0 y1 1 (by omega) 2 (by decide), hd]
  · rw [bit_eq x x0 y1 2 (by omega) 4 (by decide), ha]
theorem calld_1 : Calld (fun _ => True) ⟨#[51, 46, 52, 65, 76]⟩ ⟨#[51, 46, 52]⟩ ⟨#[51]⟩ ⟨#[52]⟩ true 3 4 where
  hP := fun _ _ _ _ => trivial
  CT := fun W _ => trim_at ⟨#[51, 46, 52, 65, 76]⟩ [51, 46, 52] W (by decide) (by decide)
  CC := fun W _ => cut_at ⟨#[51, 46, 52]⟩ ⟨#[51]⟩ ⟨#[52]⟩ 1 W (by decide) (by decide) (fun W => by kernel_rfl) (fun W => by kernel_rfl)
  PE := fun W _ => parse32_at ⟨#[51]⟩ 3 W (by decide) (by decide +kernel)
  PN := fun W _ => parse64_at ⟨#[52]⟩ 4 W (by decide) (by decide +kernel)
theorem calld_2 : Calld (fun _ => True) ⟨#[48, 51, 46, 52]⟩ ⟨#[48, 51, 46, 52]⟩ ⟨#[48, 51]⟩ ⟨#[52]⟩ true 3 4 where
  hP := fun _ _ _ _ => trivial
  CT := fun W _ => trim_at ⟨#[48, 51, 46, 52]⟩ [48, 51, 46, 52] W (by decide) (by decide)
  CC := fun W _ => cut_at ⟨#[48, 51, 46, 52]⟩ ⟨#[48, 51]⟩ ⟨#[52]⟩ 2 W (by decide) (by decide) (fun W => by kernel_rfl) (fun W => by kernel_rfl)
  PE := fun W _ => parse32_at ⟨#[48, 51]⟩ 3 W (by decide) (by decide +kernel)
  PN := fun W _ => parse64_at ⟨#[52]⟩ 4 W (by decide) (by decide +kernel)
theorem text_1 (w : World) : Calls Tryd.prog 11 #[.int .u64 51539607589] w (TextPost w ⟨#[51, 46, 52, 76, 65]⟩) := text_at 51539607589 3 4 true false true w (by decide) (by decide) (by decide) (by decide) (by decide) (by decide) ⟨#[51]⟩ ⟨#[52]⟩ (by decide +kernel) (by decide +kernel) (by decide) (by decide) (by decide) (by decide) (by decide)
theorem text_2 (w : World) : Calls Tryd.prog 11 #[.int .u64 51539607584] w (TextPost w ⟨#[51, 46, 52]⟩) := text_at 51539607584 3 4 false false false w (by decide) (by decide) (by decide) (by decide) (by decide) (by decide) ⟨#[51]⟩ ⟨#[52]⟩ (by decide +kernel) (by decide +kernel) (by decide) (by decide) (by decide) (by decide) (by decide)
theorem word_34 (W : World) : Calls Tryd.prog 17 #[.int .i64 3, .int .i64 4] W fun en w' => en = .returned (.tuple #[.int .u64 51539607584, .int .i64 0]) ∧ W = w' := word_ok 3 4 W (by decide) (by decide) (by decide) (by decide)
theorem index_at (s : ByteArray) (c : Int) (r : Int) (W : World) (h : Lib.indexByte s.data.toList c.toNat.toUInt8 = r) : Calls Tryd.prog 34 #[.string s, .int .u8 c] W fun en w' => en = .returned (.int .i64 r) ∧ W = w' := (sh_strings_IndexByte s c W).mono fun en w' ⟨h1, h2⟩ => ⟨by rw [← h]; exact h1, h2.symm⟩
theorem parse_1 (w : World) : Calls Tryd.prog 13 #[.string ⟨#[51, 46, 52, 65, 76]⟩] w (ParsePost w 0 4) := by
  have h := parse_walk (fun _ => True) ⟨#[51, 46, 52, 65, 76]⟩ ⟨#[51, 46, 52]⟩ ⟨#[51]⟩ ⟨#[52]⟩ ⟨#[65, 76]⟩ ⟨#[51, 46, 52, 76, 65]⟩ true 3 4 51539607584 51539607589 true false true 1 (-1) 0 calld_1 word_34 (fun W => by kernel_rfl)
    (fun W => index_at _ _ _ W (by decide)) (fun W => index_at _ _ _ W (by decide)) (fun W => index_at _ _ _ W (by decide)) (by decide) (by decide) (by decide) (by decide) (by decide) (by decide) (by decide) (fun W _ => text_1 W) w trivial
  exact h.mono fun en w' hp => by unfold PickPost at hp; rw [if_neg (by decide +kernel), if_neg (by decide +kernel)] at hp; exact hp
theorem parse_2 (w : World) : Calls Tryd.prog 13 #[.string ⟨#[48, 51, 46, 52]⟩] w (ParsePost w 0 4) := by
  have h := parse_walk (fun _ => True) ⟨#[48, 51, 46, 52]⟩ ⟨#[48, 51, 46, 52]⟩ ⟨#[48, 51]⟩ ⟨#[52]⟩ ⟨#[]⟩ ⟨#[51, 46, 52]⟩ true 3 4 51539607584 51539607584 false false false (-1) (-1) (-1) calld_2 word_34 (fun W => by kernel_rfl)
    (fun W => index_at _ _ _ W (by decide)) (fun W => index_at _ _ _ W (by decide)) (fun W => index_at _ _ _ W (by decide)) (by decide) (by decide) (by decide) (by decide) (by decide) (by decide) (by decide) (fun W _ => text_2 W) w trivial
  exact h.mono fun en w' hp => by unfold PickPost at hp; rw [if_neg (by decide +kernel), if_neg (by decide +kernel)] at hp; exact hp
theorem lword_ok (e n z : Int) (w : World) (h1 : 0 ≤ e) (h2 : e ≤ 16777215) (h3 : 0 ≤ n) (h4 : n ≤ 2147483647) (hz : e * 17179869184 + n * 8 = z) : Calls Tryd.prog 35 #[.int .i64 e, .int .i64 n] w fun en w' => en = .returned (.int .u64 z) ∧ w = w' := by
  have C := Aside0.mk (fun W => word_ok e n W h1 h2 h3 h4)
  rw [hz] at C
  clear h1 h2 h3 h4 hz
  go_enter Tryd.func35, Tryd.ntmps35
  go_wp2_with (first | (go_at_call 17; refine (C.out _).mono ?_; rintro en w' ⟨rfl, rfl⟩))
  go_ret
  exact ⟨rfl, rfl⟩
def NextPost (y er : Int) (w : World) (en : Ending) (w' : World) : Prop := en = .returned (.tuple #[.int .u64 y, .int .i64 er]) ∧ w = w'
theorem next_may (x : Int) (w : World) (x0 : 0 ≤ x) (x1 : x < 18446744073709551616) : Calls Tryd.prog 27 #[.int .u64 x] w (NextPost (if x < 288230376151711744 then (if x / 8 % 2147483648 = 2147483647 then 0 else x / 8 * 8 + 8) else 0) (if x < 288230376151711744 then (if x / 8 % 2147483648 = 2147483647 then 5 else 0) else 2) w) := by
  have CM := Aside0.mk (fun W => may_c x W x0 x1)
  have CU := Aside0.mk (fun W => number_c x W x0 x1)
  have CB := Aside0.mk (fun W => bare_c x W x0 x1)
  by_cases h : x < 288230376151711744
  · rw [if_pos h, if_pos h]
    rw [decide_eq_true h] at CM
    by_cases h2 : x / 8 % 2147483648 = 2147483647
    · rw [if_pos h2, if_pos h2]
      rw [h2] at CU
      clear h h2
      go_enter Tryd.func27, Tryd.ntmps27
      go_wp2_with (first | (go_at_call 20; refine (CM.out _).mono ?_; rintro en w' ⟨rfl, rfl⟩) | (go_at_call 19; refine (CU.out _).mono ?_; rintro en w' ⟨rfl, rfl⟩))
      try rw [Exit.noGoto_ret]
      go_ret2
      exact ⟨rfl, rfl⟩
    · rw [if_neg h2, if_neg h2]
      have hw : IntKind.u64.wrap (x / 8 * 8 + 8) = x / 8 * 8 + 8 := by rw [IntKind.wrap_u64]; omega
      have g : (x / 8 % 2147483648 == 2147483647) = false := beq_eq_false_iff_ne.mpr h2
      obtain ⟨y, hy⟩ : ∃ y, y = x / 8 * 8 := ⟨_, rfl⟩
      obtain ⟨z, hz⟩ : ∃ z, z = x / 8 % 2147483648 := ⟨_, rfl⟩
      rw [← hy] at hw CB ⊢
      rw [← hz] at CU g
      have HW := Aside0.mk hw
      clear h h2 hy hz hw
      go_enter Tryd.func27, Tryd.ntmps27
      go_wp2_with (first | (go_at_call 20; refine (CM.out _).mono ?_; rintro en w' ⟨rfl, rfl⟩) | (go_at_call 19; refine (CU.out _).mono ?_; rintro en w' ⟨rfl, rfl⟩) | (go_at_call 24; refine (CB.out _).mono ?_; rintro en w' ⟨rfl, rfl⟩))
      go_ret2
      exact ⟨congrArg (fun q => Ending.returned (.tuple #[.int .u64 q, .int .i64 0])) HW.out, rfl⟩
  · rw [if_neg h, if_neg h]
    rw [decide_eq_false h] at CM
    clear h
    go_enter Tryd.func27, Tryd.ntmps27
    go_wp2_with (first | (go_at_call 20; refine (CM.out _).mono ?_; rintro en w' ⟨rfl, rfl⟩))
    try rw [Exit.noGoto_ret]
    go_ret2
    exact ⟨rfl, rfl⟩
theorem next_at (x y : Int) (w : World) (x0 : 0 ≤ x) (x1 : x < 288230376151711744) (h : x / 8 % 2147483648 ≠ 2147483647) (hy : x / 8 * 8 + 8 = y) : Calls Tryd.prog 27 #[.int .u64 x] w (NextPost y 0 w) := by
  have h1 := next_may x w x0 (by omega)
  rw [if_pos x1, if_pos x1, if_neg h, if_neg h, hy] at h1
  exact h1
theorem with_at (x y : Int) (l d a : Bool) (w : World) (x0 : 0 ≤ x) (x1 : x < 18446744073709551616) (hy : with_g x l d a = y) : Calls Tryd.prog 25 #[.int .u64 x, .bool l, .bool d, .bool a] w fun e w' => e = .returned (.int .u64 y) ∧ Drawn0 w w' := with_calls x l d a y w (by unfold with_f; rw [if_pos ⟨x0, x1⟩, hy])
theorem word_16 (W : World) : Calls Tryd.prog 17 #[.int .i64 16777216, .int .i64 0] W fun en w' => en = .returned (.tuple #[.int .u64 0, .int .i64 2]) ∧ W = w' := word_bad _ _ W (by omega)
set_option maxHeartbeats 8000000 in
set_option maxRecDepth 100000 in
theorem known_walk (w : World) : Calls Tryd.prog 14 #[] w fun e w' => e = .returned (.bool true) ∧ Below w.heap.size w w' := by
  have HB := Aside0.mk (Below.refl w.heap.size w)
  have W15 := Aside0.mk (fun W => lword_ok 1 5 17179869224 W (by decide) (by decide) (by decide) (by decide) (by decide))
  have W34 := Aside0.mk (fun W => lword_ok 3 4 51539607584 W (by decide) (by decide) (by decide) (by decide) (by decide))
  have W11 := Aside0.mk (fun W => lword_ok 1 1 17179869192 W (by decide) (by decide) (by decide) (by decide) (by decide))
  have W20 := Aside0.mk (fun W => lword_ok 2 0 34359738368 W (by decide) (by decide) (by decide) (by decide) (by decide))
  have W16 := Aside0.mk (fun W => lword_ok 1 6 17179869232 W (by decide) (by decide) (by decide) (by decide) (by decide))
  have CW1 := Aside0.mk (fun W => with_at 17179869224 17179869225 true false false W (by decide) (by decide) (by decide))
  have CW2 := Aside0.mk (fun W => with_at 51539607584 51539607589 true false true W (by decide) (by decide) (by decide))
  have CN := Aside0.mk (fun W => next_at 17179869225 17179869232 W (by decide) (by decide) (by decide) (by decide))
  go_enter Tryd.func14, Tryd.ntmps14
  go_wp2_with (first | (go_at_call 35; (with_reducible refine (W15.out _).mono ?_); rintro en wn ⟨rfl, rfl⟩) | (go_at_call 35; (with_reducible refine (W34.out _).mono ?_); rintro en wn ⟨rfl, rfl⟩) | (go_at_call 35; (with_reducible refine (W11.out _).mono ?_); rintro en wn ⟨rfl, rfl⟩) | (go_at_call 35; (with_reducible refine (W20.out _).mono ?_); rintro en wn ⟨rfl, rfl⟩) | (go_at_call 35; (with_reducible refine (W16.out _).mono ?_); rintro en wn ⟨rfl, rfl⟩) | (go_at_call 25; (with_reducible refine (CW1.out _).mono ?_); rintro en wn ⟨rfl, hd⟩; replace HB := Aside0.mk (below_step HB.out hd.below); clear hd) | (go_at_call 25; (with_reducible refine (CW2.out _).mono ?_); rintro en wn ⟨rfl, hd⟩; replace HB := Aside0.mk (below_step HB.out hd.below); clear hd) | (go_at_call 27; (with_reducible refine (CN.out _).mono ?_); rintro en wn ⟨rfl, rfl⟩) | (go_at_call 11; (with_reducible refine (text_1 _).mono ?_); rintro en wn ⟨rfl, hb⟩; replace HB := Aside0.mk (below_step HB.out hb); clear hb) | (go_at_call 13; (with_reducible refine (parse_1 _).mono ?_); rintro en wn ⟨rfl, hb⟩; replace HB := Aside0.mk (below_step HB.out hb); clear hb) | (go_at_call 13; (with_reducible refine (parse_2 _).mono ?_); rintro en wn ⟨rfl, hb⟩; replace HB := Aside0.mk (below_step HB.out hb); clear hb) | (go_at_call 17; (with_reducible refine (word_16 _).mono ?_); rintro en wn ⟨rfl, rfl⟩))
  go_ret
  exact ⟨by first | rfl | simp, HB.out⟩
end Go.Proofs.YtdgcgaibkiobjaaDoor.Tk
