/- tid: any word's text, and what Parse makes of any text. -/
import Derived.Test.YtdgcgaibkiobjaaDoorProg
import Derived.Below
import Derived.Deep.Draws
import Derived.Deep.AppendLies
import Derived.Maps.AppendAt
import Derived.OwnWalk
import Derived.Laws.BytesArg
import Derived.Laws.MakeOwn
import Derived.Laws.OwnMore
import Derived.Deep.OwnRows
import Derived.Tactics
import Derived.Lib.ConvBytes
import Derived.Laws.Slices
import Derived.WalkKit
import Derived.KernelRfl
import Derived.RowKit3
import Derived.Deep.LoopGhost
import Derived.Deep.QuietTactic
import Derived.BigQuiet
import Derived.WideLaws
import Derived.Deep.DeepCutAuto
import Derived.Deep.CutBlock
import Derived.Deep.RegionHeld3
import Derived.Laws.Rows
import Derived.Lib.AppendStr
import Derived.ArgAppend
import Derived.Laws.IdiomCopy
import Derived.OrdersHeld
import Derived.Laws.BitsLemmas
import Derived.RowKit
import Derived.Lib.BytesEntry
import Derived.Test.YtdgcgaibkiobjaaDoorWWords
import Derived.Test.YtdgcgaibkiobjaaDoorWLast
import Derived.Test.YtdgcgaibkiobjaaDoorWTab
import Derived.Test.YtdgcgaibkiobjaaDoorWFour
import Derived.Test.YtdgcgaibkiobjaaDoorWQPut
import Derived.Test.YtdgcgaibkiobjaaDoorWApart
import Derived.Test.YtdgcgaibkiobjaaDoorWArr
import Derived.Test.YtdgcgaibkiobjaaDoorWZeros
import Derived.Test.YtdgcgaibkiobjaaDoorWFoot
import Derived.Test.YtdgcgaibkiobjaaDoorWKept
import Derived.Test.YtdgcgaibkiobjaaDoorWShare
import Derived.Test.YtdgcgaibkiobjaaDoorWN
import Derived.Test.YtdgcgaibkiobjaaDoorWFootNe
import Derived.Test.YtdgcgaibkiobjaaDoorWAt
import Derived.Test.YtdgcgaibkiobjaaDoorWEqStruct
import Derived.Test.YtdgcgaibkiobjaaDoorWRepsOne
import Derived.Test.YtdgcgaibkiobjaaDoorWInv
import Derived.Test.YtdgcgaibkiobjaaDoorWInvWords
import Derived.Test.YtdgcgaibkiobjaaDoorWGuard
import Derived.Test.YtdgcgaibkiobjaaDoorWNEv
import Derived.Test.YtdgcgaibkiobjaaDoorWMore
import Derived.OwnWalkIn
import Derived.TacticsInMore
import Derived.LoopNIn
import Derived.LoopIn
import Derived.Maps.AppendAt
import Derived.Maps.Range
import Derived.StillTailTactics
import Derived.WalkSpells
import Derived.IntWalk
import Derived.Laws.BitsAllLaws
import Derived.WalkMore
import Derived.Laws.Cover3
import Derived.Test.YtdgcgaibkiobjaaDoorU64
import Derived.Test.YtdgcgaibkiobjaaDoorTt
import Derived.Test.YtdgcgaibkiobjaaDoorTc
import Derived.Test.YtdgcgaibkiobjaaDoorTd
import Derived.Test.YtdgcgaibkiobjaaDoorTf
import Derived.Test.YtdgcgaibkiobjaaDoorTq
import Derived.Lib.AppendIntMem
import Derived.Lib.SmallJoins
namespace Go.Proofs.YtdgcgaibkiobjaaDoor.Tk
open Go.RowKit Go.Proofs.YtdgcgaibkiobjaaDoorW.PrintWords Go.Proofs.YtdgcgaibkiobjaaDoorW.PrintLast Go.Proofs.YtdgcgaibkiobjaaDoorW.PrintMore
set_option linter.unusedVariables false
set_option linter.unusedSimpArgs false
open Go.Proofs.YtdgcgaibkiobjaaDoor.Shf Go.Proofs.YtdgcgaibkiobjaaDoor.Tp
def ErrAt (g : Nat) (w : World) : Prop := ∃ ev, w.cell? ⟨g, 0, none⟩ = some ev ∧ (ev = .nilIface ∨ ∃ te pe, ev = .iface te pe)
/-- What of the library's variables is used. -/
def PW (w : World) : Prop := Lib.TabIs Tryd.prog w "internal/strconv.uint64pow10" .u64 Lib.pow10Tab ∧ ErrAt 2 w ∧ ErrAt 3 w
theorem err_below {g : Nat} {w w' : World} (h : ErrAt g w) (hb : Below w.heap.size w w') : ErrAt g w' := by
  obtain ⟨ev, h1, h2⟩ := h
  exact ⟨ev, (hb.cell (World.block_lt_of_cell? w _ h1)).trans h1, h2⟩
theorem pw_stays (w w' : World) (h : PW w) (hb : Below w.heap.size w w') : PW w' :=
  ⟨Lib.tabBelow_of_tabIs h.1 w' hb, err_below h.2.1 hb, err_below h.2.2 hb⟩
theorem slice_to (s : ByteArray) (i : Nat) (hi : i ≤ s.size) (hs : s.size ≤ 1000) (W : World) : (Instr.slice 9 (.string s) none (some (.int .i64 (i : Int))) none).run Tryd.prog W = .ok (.string (s.extract 0 i)) W := by
  go_simp
theorem slice_from (s : ByteArray) (i : Nat) (hi : i ≤ s.size) (hs : s.size ≤ 1000) (W : World) : (Instr.slice 9 (.string s) (some (.int .i64 (i : Int))) none none).run Tryd.prog W = .ok (.string (s.extract i s.size)) W := by
  go_simp
def CutNo (w : World) (s : ByteArray) (en : Ending) (w' : World) : Prop := en = .returned (.tuple #[.string s, .string ⟨#[]⟩, .bool false]) ∧ Below w.heap.size w w'
theorem cut_in_no (s : ByteArray) (w : World) (hi : Lib.indexByte s.data.toList 46 = -1) : Calls Tryd.prog 42 #[.string s, .string ⟨#[46]⟩] w (CutNo w s) := by
  have CI := Aside0.mk (fun W : World => sh_stringslite_Index_one s 46 W)
  rw [hi] at CI
  clear hi
  go_enter Tryd.func42, Tryd.ntmps42
  go_wp2_with (first | (go_at_call 53; refine (CI.out _).mono ?_; rintro en w' ⟨rfl, rfl⟩))
  try rw [Exit.noGoto_ret]
  go_ret3
  exact ⟨rfl, Below.refl _ _⟩
theorem cut_no (s : ByteArray) (w : World) (hi : Lib.indexByte s.data.toList 46 = -1) : Calls Tryd.prog 32 #[.string s, .string ⟨#[46]⟩] w (CutNo w s) := by
  have CI := Aside0.mk (cut_in_no s w hi)
  clear hi
  go_enter Tryd.func32, Tryd.ntmps32
  go_wp2_with (first | (go_at_call 42; refine CI.out.mono ?_; rintro en w' ⟨rfl, hb⟩))
  go_ret3
  exact ⟨rfl, hb⟩
def pint (b : Nat) (l : List UInt8) : Int := match Lib.parseIntB b l with | .ok v => v | .range => Lib.intSat b l | _ => 0
theorem pint_ok {b : Nat} {l : List UInt8} {v : Int} (h : Lib.parseIntB b l = .ok v) : pint b l = v := by unfold pint; rw [h]
theorem parse32_any (s : ByteArray) (w : World) (hs : s.size ≤ 1000) (hw : PW w) : Calls Tryd.prog 33 #[.string s, .int .i64 10, .int .i64 32] w fun en w' => (∃ u, en = .returned (.tuple #[.int .i64 (pint 32 s.data.toList), u])) ∧ Below w.heap.size w w' := by
  obtain ⟨_, ⟨e2, h2, g2⟩, ⟨e3, h3, g3⟩⟩ := hw
  unfold pint
  rcases h : Lib.parseIntB 32 s.data.toList with v | - | -
  · exact parse32_at s v w hs h
  · exact (Any.strconv_ParseInt_10_at32_syntax sh_laysC174 s (by omega) h e2 w h2 g2).mono fun en w' ⟨N, h4, _, _, h5⟩ => ⟨⟨_, h4⟩, h5⟩
  · exact (sh_strconv_ParseInt_10_at32_range s (by omega) h e3 w h3 g3).mono fun en w' ⟨N, h4, _, _, h5⟩ => ⟨⟨_, h4⟩, h5⟩
theorem parse64_any (s : ByteArray) (w : World) (hs : s.size ≤ 1000) (hw : PW w) : Calls Tryd.prog 33 #[.string s, .int .i64 10, .int .i64 64] w fun en w' => (∃ u, en = .returned (.tuple #[.int .i64 (pint 64 s.data.toList), u])) ∧ Below w.heap.size w w' := by
  obtain ⟨_, ⟨e2, h2, g2⟩, ⟨e3, h3, g3⟩⟩ := hw
  unfold pint
  rcases h : Lib.parseIntB 64 s.data.toList with v | - | -
  · exact parse64_at s v w hs h
  · exact (Any.strconv_ParseInt_10_at64_syntax sh_laysC174 s (by omega) h e2 w h2 g2).mono fun en w' ⟨N, h4, _, _, h5⟩ => ⟨⟨_, h4⟩, h5⟩
  · exact (sh_strconv_ParseInt_10_at64_range s (by omega) h e3 w h3 g3).mono fun en w' ⟨N, h4, _, _, h5⟩ => ⟨⟨_, h4⟩, h5⟩
theorem format_at (u : Nat) (hu : u < 10000000000) (w : World) (hw : PW w) : Calls Tryd.prog 29 #[.int .i64 (u : Int), .int .i64 10] w fun en w' => en = .returned (.string (B (dig u))) ∧ Below w.heap.size w w' := by
  have h := sh_strconv_FormatInt_10 (u : Int) (by omega) (by omega) w hw.1
  have e : Lib.itoa (u : Int) = dig u := by unfold Lib.itoa; rw [if_neg (by omega)]; rfl
  rw [e] at h
  exact h.mono fun en w' ⟨h1, k, os, h2⟩ => ⟨h1, by rw [h2]; exact Lib.below_grow _ _ (Nat.le_refl _) _ _⟩
theorem text_any (x : Int) (e n : Nat) (l d a : Bool) (w : World) (hw : PW w) (x0 : 0 ≤ x) (x1 : x < 288230376151711744) (he : x / 17179869184 % 16777216 = (e : Int)) (hn : x / 8 % 2147483648 = (n : Int)) (hl : decide (x / 1 % 2 = 1) = l) (hd : decide (x / 2 % 2 = 1) = d) (ha : decide (x / 4 % 2 = 1) = a) :
    Calls Tryd.prog 11 #[.int .u64 x] w (TextPost w (B (canon e n l d a))) := by
  have y1 : x < 18446744073709551616 := by omega
  have e9 : e < 10000000000 := by omega
  have n9 : n < 10000000000 := by omega
  rw [← text_canon]
  refine text_walk PW pw_stays x e n l d a _ _ ?_ ?_ ?_ ?_ ?_ ?_ ?_ ?_ ?_ ?_ w hw
  · intro W; have h := may_c x W x0 y1; rw [decide_eq_true x1] at h; exact h
  · intro W; have h := epoch_c x W x0 y1; rw [he] at h; exact h
  · intro W; have h := number_c x W x0 y1; rw [hn] at h; exact h
  · intro W hW; exact format_at e e9 W hW
  · intro W hW; exact format_at n n9 W hW
  · rw [bit_eq x x0 y1 0 (by omega) 1 (by decide), hl]
  · rw [bit_eq x x0 y1 1 (by omega) 2 (by decide), hd]
  · rw [bit_eq x x0 y1 2 (by omega) 4 (by decide), ha]
  · rw [B_size]; have := dig_len e e9; omega
  · rw [B_size]; have := dig_len n n9; omega
/-! ### Parse, at any text -/
theorem trim_pre (l cs : List UInt8) : Lib.trimRightS l cs = l.take (Lib.trimRightS l cs).length := by
  apply List.prefix_iff_eq_take.1
  unfold Lib.trimRightS
  have h : (l.reverse.dropWhile (cs.contains ·)) <:+ l.reverse := List.dropWhile_suffix _
  have h2 := List.reverse_prefix.2 h
  rwa [List.reverse_reverse] at h2
def cutP (h : List UInt8) : List UInt8 × List UInt8 × Bool := if Lib.indexByte h 46 = -1 then (h, [], false) else (h.take (Lib.indexByte h 46).toNat, h.drop ((Lib.indexByte h 46).toNat + 1), true)
def headOf (l : List UInt8) : List UInt8 := Lib.trimRightS l [76, 68, 65]
def eOf (l : List UInt8) : Int := pint 32 (cutP (headOf l)).1
def nOf (l : List UInt8) : Int := pint 64 (cutP (headOf l)).2.1
def hasB (l : List UInt8) (c : UInt8) : Bool := decide (0 ≤ Lib.indexByte (l.drop (headOf l).length) c)
theorem head_len (l : List UInt8) : (headOf l).length ≤ l.length := by
  have := trim_pre l [76, 68, 65]
  unfold headOf
  have h := congrArg List.length this
  rw [List.length_take] at h
  omega
theorem cut_len (l : List UInt8) : (cutP l).1.length ≤ l.length ∧ (cutP l).2.1.length ≤ l.length := by
  unfold cutP
  split <;> simp <;> omega
theorem calld_any (l : List UInt8) (hl : l.length ≤ 900) : Calld PW (B l) (B (headOf l)) (B (cutP (headOf l)).1) (B (cutP (headOf l)).2.1) (cutP (headOf l)).2.2 (eOf l) (nOf l) where
  hP := pw_stays
  CT := fun W _ => trim_at (B l) (headOf l) W (by rw [B_size]; omega) (by rw [B_list]; rfl)
  CC := fun W _ => by
    have hh := head_len l
    generalize headOf l = h at *
    by_cases hi : Lib.indexByte h 46 = -1
    · have e : cutP h = (h, [], false) := by unfold cutP; rw [if_pos hi]
      rw [e]
      exact cut_no (B h) W (by rw [B_list]; exact hi)
    · have hg := Lib.indexByte_ge h 46
      obtain ⟨i, hi2⟩ : ∃ i : Nat, Lib.indexByte h 46 = (i : Int) := ⟨(Lib.indexByte h 46).toNat, by omega⟩
      have e : cutP h = (h.take i, h.drop (i + 1), true) := by unfold cutP; rw [if_neg hi, hi2]; rfl
      have hil : i < h.length := by
        have h1 := (Lib.indexByte_some hi2).1
        rcases Nat.lt_or_ge i h.length with h2 | h2
        · exact h2
        · rw [List.getElem?_eq_none h2] at h1; cases h1
      rw [e]
      refine cut_at (B h) (B (h.take i)) (B (h.drop (i + 1))) i W (by rw [B_list]; exact hi2) (by omega) (fun W => ?_) (fun W => ?_)
      · have := slice_to (B h) i (by rw [B_size]; omega) (by rw [B_size]; omega) W
        rw [B_extract, List.drop_zero] at this
        exact this
      · have := slice_from (B h) (i + 1) (by rw [B_size]; omega) (by rw [B_size]; omega) W
        rw [B_extract, B_size, List.take_length] at this
        exact this
  PE := fun W hW => by
    have h1 := (cut_len (headOf l)).1
    have h2 := head_len l
    have h := parse32_any (B (cutP (headOf l)).1) W (by rw [B_size]; omega) hW
    rw [B_list] at h
    exact h
  PN := fun W hW => by
    have h1 := (cut_len (headOf l)).2
    have h2 := head_len l
    have h := parse64_any (B (cutP (headOf l)).2.1) W (by rw [B_size]; omega) hW
    rw [B_list] at h
    exact h
theorem has_suf (L d a : Bool) : decide (0 ≤ Lib.indexByte (suf L d a) 76) = L ∧ decide (0 ≤ Lib.indexByte (suf L d a) 68) = d ∧ decide (0 ≤ Lib.indexByte (suf L d a) 65) = a := by
  cases L <;> cases d <;> cases a <;> decide
theorem of_canon (u v : Nat) (L d a : Bool) (hu : u ≤ 16777215) (hv : v ≤ 2147483647) : eOf (canon u v L d a) = (u : Int) ∧ nOf (canon u v L d a) = (v : Int) ∧ hasB (canon u v L d a) 76 = L ∧ hasB (canon u v L d a) 68 = d ∧ hasB (canon u v L d a) 65 = a := by
  have hh : headOf (canon u v L d a) = dig u ++ 46 :: dig v := trim_canon u v L d a
  have hi : Lib.indexByte (dig u ++ 46 :: dig v) 46 = ((dig u).length : Int) := index_append _ _ (fun c hc => isD_ne ((dig_all u).1 c hc) (by decide))
  have hc : cutP (dig u ++ 46 :: dig v) = (dig u, dig v, true) := by
    unfold cutP
    rw [hi, if_neg (by omega)]
    simp
  have ht : (canon u v L d a).drop (headOf (canon u v L d a)).length = suf L d a := by
    rw [hh]
    have : canon u v L d a = (dig u ++ 46 :: dig v) ++ suf L d a := by unfold canon; simp
    rw [this, List.drop_left]
  unfold hasB eOf nOf
  rw [ht, hh, hc]
  obtain ⟨h1, h2, h3⟩ := has_suf L d a
  exact ⟨pint_ok (parse_dig 32 u (Or.inl rfl) (by omega)), pint_ok (parse_dig 64 v (Or.inr rfl) (by omega)), h1, h2, h3⟩
def tidOut (l : List UInt8) : Int × Int := match refP l with | some (e, n, L, d, a) => (with_g (e * 17179869184 + n * 8) L d a, 0) | none => (0, 4)
theorem parse_any (l : List UInt8) (hl : l.length ≤ 900) (w : World) (hw : PW w) : Calls Tryd.prog 13 #[.string (B l)] w (ParsePost w (tidOut l).1 (tidOut l).2) := by
  have hcan : ∀ e n L d a, refP l = some (e, n, L, d, a) → ∃ u v : Nat, e = (u : Int) ∧ n = (v : Int) ∧ u ≤ 16777215 ∧ v ≤ 2147483647 ∧ l = canon u v L d a ∧ eOf l = e ∧ nOf l = n ∧ hasB l 76 = L ∧ hasB l 68 = d ∧ hasB l 65 = a := by
    intro e n L d a h
    obtain ⟨u, v, h1, h2, h3, h4, h5⟩ := refP_is h
    obtain ⟨g1, g2, g3, g4, g5⟩ := of_canon u v L d a h3 h4
    rw [← h5] at g1 g2 g3 g4 g5
    exact ⟨u, v, h1, h2, h3, h4, h5, by rw [g1, h1], by rw [g2, h2], g3, g4, g5⟩
  by_cases hb : 0 ≤ eOf l ∧ eOf l ≤ 16777215 ∧ 0 ≤ nOf l ∧ nOf l ≤ 2147483647
  · obtain ⟨u, hu⟩ : ∃ u : Nat, eOf l = (u : Int) := ⟨(eOf l).toNat, by omega⟩
    obtain ⟨v, hv⟩ : ∃ v : Nat, nOf l = (v : Int) := ⟨(nOf l).toNat, by omega⟩
    have hu9 : u ≤ 16777215 := by omega
    have hv9 : v ≤ 2147483647 := by omega
    have hy : with_g (eOf l * 17179869184 + nOf l * 8) (hasB l 76) (hasB l 68) (hasB l 65) = ((u * 17179869184 + v * 8 + (if hasB l 76 = true then 1 else 0) + (if hasB l 68 = true then 2 else 0) + (if hasB l 65 = true then 4 else 0) : Nat) : Int) := by
      unfold with_g
      rw [hu, hv]
      have : ((u : Int) * 17179869184 + (v : Int) * 8) / 8 * 8 = (u : Int) * 17179869184 + (v : Int) * 8 := by omega
      rw [this]
      cases hasB l 76 <;> cases hasB l 68 <;> cases hasB l 65 <;> simp only [if_true, Bool.false_eq_true, if_false] <;> omega
    have CT : ∀ W, PW W → Calls Tryd.prog 11 #[.int .u64 (with_g (eOf l * 17179869184 + nOf l * 8) (hasB l 76) (hasB l 68) (hasB l 65))] W (TextPost W (B (canon u v (hasB l 76) (hasB l 68) (hasB l 65)))) := by
      intro W hW
      rw [hy]
      generalize hasB l 76 = L
      generalize hasB l 68 = d
      generalize hasB l 65 = a
      cases L <;> cases d <;> cases a <;> refine text_any _ u v _ _ _ W hW ?_ ?_ ?_ ?_ ?_ ?_ ?_ <;> simp only [if_true, Bool.false_eq_true, if_false] <;> first | omega | (rw [decide_eq_true_iff]; omega) | (rw [decide_eq_false_iff_not]; omega)
    have h := parse_walk PW (B l) (B (headOf l)) (B (cutP (headOf l)).1) (B (cutP (headOf l)).2.1) (B (l.drop (headOf l).length)) (B (canon u v (hasB l 76) (hasB l 68) (hasB l 65))) (cutP (headOf l)).2.2 (eOf l) (nOf l) (eOf l * 17179869184 + nOf l * 8) _ (hasB l 76) (hasB l 68) (hasB l 65)
      (Lib.indexByte (l.drop (headOf l).length) 76) (Lib.indexByte (l.drop (headOf l).length) 68) (Lib.indexByte (l.drop (headOf l).length) 65) (calld_any l hl)
      (fun W => word_ok _ _ W hb.1 hb.2.1 hb.2.2.1 hb.2.2.2)
      (fun W => by
        have hh := head_len l
        have := slice_from (B l) (headOf l).length (by rw [B_size]; omega) (by rw [B_size]; omega) W
        rw [B_extract, B_size, List.take_length] at this
        rw [B_size]
        exact this)
      (fun W => index_at _ _ _ W (by rw [B_list]; rfl)) (fun W => index_at _ _ _ W (by rw [B_list]; rfl)) (fun W => index_at _ _ _ W (by rw [B_list]; rfl)) rfl rfl rfl rfl (by omega) (by omega) (by omega) CT w hw
    refine h.mono fun en w' hp => ?_
    unfold PickPost at hp
    have hB : ∀ a b : List UInt8, ((B a).toList = (B b).toList) ↔ a = b := by
      intro a b
      constructor
      · intro h
        have := congrArg (fun x => x) h
        simpa [ByteArray.toList_eq, B] using this
      · rintro rfl; rfl
    by_cases ht : canon u v (hasB l 76) (hasB l 68) (hasB l 65) = l
    · rw [if_pos ((hB _ _).2 ht), if_pos ((hB _ _).2 ht)] at hp
      have hr : refP l = some ((u : Int), (v : Int), hasB l 76, hasB l 68, hasB l 65) := by
        rw [← refP_canon u v _ _ _ hu9 hv9, ht]
      have : tidOut l = (with_g (eOf l * 17179869184 + nOf l * 8) (hasB l 76) (hasB l 68) (hasB l 65), 0) := by unfold tidOut; rw [hr, hu, hv]
      rw [this]
      exact hp
    · rw [if_neg (fun h => ht ((hB _ _).1 h)), if_neg (fun h => ht ((hB _ _).1 h))] at hp
      have hr : refP l = none := by
        cases hq : refP l with
        | none => rfl
        | some q =>
          obtain ⟨e, n, L, d, a⟩ := q
          obtain ⟨u', v', h1, h2, h3, h4, h5, h6, h7, h8, h9, h10⟩ := hcan e n L d a hq
          exfalso
          apply ht
          rw [h8, h9, h10, show u = u' by omega, show v = v' by omega]
          exact h5.symm
      have : tidOut l = (0, 4) := by unfold tidOut; rw [hr]
      rw [this]
      exact hp
  · have h := parse_bad PW (B l) (B (headOf l)) (B (cutP (headOf l)).1) (B (cutP (headOf l)).2.1) (cutP (headOf l)).2.2 (eOf l) (nOf l) (calld_any l hl) (fun W => word_bad _ _ W hb) w hw
    have hr : refP l = none := by
      cases hq : refP l with
      | none => rfl
      | some q =>
        obtain ⟨e, n, L, d, a⟩ := q
        obtain ⟨u', v', h1, h2, h3, h4, h5, h6, h7, h8, h9, h10⟩ := hcan e n L d a hq
        exact absurd ⟨by omega, by omega, by omega, by omega⟩ hb
    have : tidOut l = (0, 4) := by unfold tidOut; rw [hr]
    rw [this]
    exact h
end Go.Proofs.YtdgcgaibkiobjaaDoor.Tk
