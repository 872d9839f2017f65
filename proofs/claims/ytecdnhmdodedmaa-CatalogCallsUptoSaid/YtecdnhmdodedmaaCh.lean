/- slices.IndexFunc and ContainsFunc over entries, calls, transactions, sessions, with a closure. -/
import Derived.Test.YtecdnhmdodedmaaCe
import Derived.Test.YtecdnhmdodedmaaHSx1
import Derived.Outline
namespace Go.Proofs.Ytecdnhmdodedmaa.Ch
open Go.RowKit Go.Proofs.YtecdnhmdodedmaaW.PrintWords Go.Proofs.YtecdnhmdodedmaaW.PrintLast Go.Proofs.YtecdnhmdodedmaaW.PrintMore Go.Proofs.Ytecdnhmdodedmaa.HS
set_option linter.unusedVariables false
set_option linter.unusedSimpArgs false
/-- A number that is not below 0 just if b. -/
def IxP (b : Bool) (w : World) (e : Ending) (w' : World) : Prop := (∃ r : Int, e = .returned (.int .i64 r) ∧ decide (0 ≤ r) = b) ∧ Below w.heap.size w w'

set_option maxHeartbeats 4000000 in
set_option maxRecDepth 100000 in
theorem index62 (A : Option Addr) (c : Nat) (l : List S62) (p : S62 → Bool) (P0 : Nat) (w : World) (h : Kd.C k62 w A l.length l)
    (H : ∀ (i : Nat) (hi : i < l.length) (A1 : Option Addr) (c1 : Nat) (W : World), Below w.heap.size w W → ((rd_T62 l (i : Int)).f1.length ≤ c1 ∧ Kd.C (Kd.int .u8) W A1 (rd_T62 l (i : Int)).f1.length (rd_T62 l (i : Int)).f1) → Calls Try.prog 70 #[.agg #[.int .i64 (rd_T62 l (i : Int)).f0, .slice A1 (rd_T62 l (i : Int)).f1.length c1], .pointer (some ⟨P0, 0, none⟩)] W fun e W' => e = .returned (.bool (p (rd_T62 l (i : Int)))) ∧ Below W.heap.size W W') :
    Calls Try.prog 76 #[.slice A l.length c, .func (.func 70) #[] #[.pointer (some ⟨P0, 0, none⟩)]] w (IxP (l.any p) w) := by
  have HC := Aside0.mk h
  have HH := Aside0.mk H
  have hm : l.length ≤ 9223372036854775807 := h.2.1
  obtain ⟨R, hR⟩ : ∃ R, R = l.any p := ⟨_, rfl⟩
  rw [← hR]
  have HR := Aside0.mk hR
  clear h H hR
  go_enter Try.func76, Try.ntmps76
  go_wp2
  go_loopw [8] (fun v w' => ∃ i : Nat, v = .int .i64 i ∧ i ≤ l.length ∧ Aside0 (∀ j : Nat, j < i → p (rd_T62 l (j : Int)) = false) ∧ Aside0 (Below w.heap.size w w')) (fun v _ => l.length - (intOf v).toNat)
  case atStart => exact ⟨0, rfl, Nat.zero_le _, ⟨fun j hj => by omega⟩, ⟨Below.refl _ _⟩⟩
  case round =>
    obtain ⟨i, rfl, hi, hb, hB⟩ := hrel
    by_cases hlt : i < l.length
    · obtain ⟨ad, A1, c1, ea, x0, x1, hl1, hC1⟩ := at_T62 (Kd.C_below HC.out hB.out) (i : Int) (by omega) (by omega)
      subst ea
      simp only [Int.toNat_natCast] at x0 x1
      have HX := Aside0.mk (HH.out i hlt A1 c1 wr hB.out ⟨hl1, hC1⟩)
      have k0 : (0 : Int) ≤ (i : Int) := by omega
      have k1 : (i : Int) < (l.length : Int) := by omega
      have HBD := Aside0.mk (fun (hp : p (rd_T62 l (i : Int)) = false) => (show ∀ j : Nat, j < i + 1 → p (rd_T62 l (j : Int)) = false from fun j hj => by
          by_cases e : j = i
          · subst e; exact hp
          · exact hb.out j (by omega)))
      have HT := Aside0.mk (fun (hp : p (rd_T62 l (i : Int)) = true) => (show R = true from by
        rw [HR.out, List.any_eq_true]
        refine ⟨l[i], List.getElem_mem hlt, ?_⟩
        rw [← hp]
        simp [rd_T62, List.getD, hlt]))
      obtain ⟨b, hbe⟩ : ∃ b, p (rd_T62 l (i : Int)) = b := ⟨_, rfl⟩
      rw [hbe] at HX HT HBD
      obtain ⟨x, hx⟩ : ∃ x, rd_T62 l (i : Int) = x := ⟨_, rfl⟩
      rw [hx] at x0 x1 HX
      clear hl1 hC1 hx hbe
      cases b with
      | false =>
        go_wp2_with (first | (go_at_call 70; (with_reducible refine HX.out.mono ?_); rintro e w2 ⟨rfl, hb2⟩; have HB2 := Aside0.mk (below_step hB.out hb2); clear hb2))
        go_roundw
        case rel => exact ⟨i + 1, by go_num, by omega, ⟨HBD.out (by first | trivial | rfl)⟩, HB2⟩
        case measure => simp [intOf]; omega
      | true =>
        go_wp2_with (first | (go_at_call 70; (with_reducible refine HX.out.mono ?_); rintro e w2 ⟨rfl, hb2⟩; have HB2 := Aside0.mk (below_step hB.out hb2); clear hb2))
        go_ret
        refine ⟨⟨(i : Int), rfl, ?_⟩, HB2.out⟩
        rw [HT.out (by first | trivial | rfl)]
        exact decide_eq_true (by omega)
    · obtain rfl : i = l.length := by omega
      go_wp2
      go_ret
      refine ⟨⟨-1, rfl, ?_⟩, hB.out⟩
      rw [HR.out, decide_eq_false (by decide)]
      refine (List.any_eq_false.2 fun x hx => ?_).symm
      obtain ⟨j, hj, rfl⟩ := List.mem_iff_getElem.1 hx
      have := hb.out j hj
      rw [show rd_T62 l (j : Int) = l[j] by simp [rd_T62, List.getD, hj]] at this
      rw [this]
      decide
set_option maxRecDepth 100000 in
theorem contains62 (A : Option Addr) (c : Nat) (l : List S62) (p : S62 → Bool) (P0 : Nat) (w : World) (h : Kd.C k62 w A l.length l)
    (H : ∀ (i : Nat) (hi : i < l.length) (A1 : Option Addr) (c1 : Nat) (W : World), Below w.heap.size w W → ((rd_T62 l (i : Int)).f1.length ≤ c1 ∧ Kd.C (Kd.int .u8) W A1 (rd_T62 l (i : Int)).f1.length (rd_T62 l (i : Int)).f1) → Calls Try.prog 70 #[.agg #[.int .i64 (rd_T62 l (i : Int)).f0, .slice A1 (rd_T62 l (i : Int)).f1.length c1], .pointer (some ⟨P0, 0, none⟩)] W fun e W' => e = .returned (.bool (p (rd_T62 l (i : Int)))) ∧ Below W.heap.size W W') :
    Calls Try.prog 69 #[.slice A l.length c, .func (.func 70) #[] #[.pointer (some ⟨P0, 0, none⟩)]] w fun e w' => e = .returned (.bool (l.any p)) ∧ Below w.heap.size w w' := by
  have HX := Aside0.mk (index62 A c l p P0 w h H)
  clear h H
  go_enter Try.func69, Try.ntmps69
  go_wp2_with (first | (go_at_call 76; (with_reducible refine HX.out.mono ?_); rintro e w' ⟨⟨r, rfl, hr⟩, hb⟩; have HR := Aside0.mk hr; have HB := Aside0.mk hb; clear hr hb))
  go_ret
  exact ⟨congrArg (fun z => Ending.returned (Value.bool z)) HR.out, HB.out⟩

set_option maxHeartbeats 4000000 in
set_option maxRecDepth 100000 in
theorem index80 (A : Option Addr) (c : Nat) (l : List S80) (p : S80 → Bool) (P0 P1 : Nat) (w : World) (h : Kd.C k80 w A l.length l)
    (H : ∀ (i : Nat) (hi : i < l.length) (A3 : Option Addr) (c3 : Nat) (A4 : Option Addr) (c4 : Nat) (A6 : Option Addr) (c6 : Nat) (W : World), Below w.heap.size w W → ((rd_T80 l (i : Int)).f3.length ≤ c3 ∧ Kd.C (Kd.int .u8) W A3 (rd_T80 l (i : Int)).f3.length (rd_T80 l (i : Int)).f3 ∧ (rd_T80 l (i : Int)).f4.length ≤ c4 ∧ Kd.C (Kd.int .u8) W A4 (rd_T80 l (i : Int)).f4.length (rd_T80 l (i : Int)).f4 ∧ (rd_T80 l (i : Int)).f6.length ≤ c6 ∧ Kd.C (Kd.slice 5 (Kd.int .u8)) W A6 (rd_T80 l (i : Int)).f6.length (rd_T80 l (i : Int)).f6) → Calls Try.prog 57 #[.agg #[.int .i64 (rd_T80 l (i : Int)).f0, .int .i64 (rd_T80 l (i : Int)).f1, .int .i64 (rd_T80 l (i : Int)).f2, .slice A3 (rd_T80 l (i : Int)).f3.length c3, .slice A4 (rd_T80 l (i : Int)).f4.length c4, .int .i64 (rd_T80 l (i : Int)).f5, .slice A6 (rd_T80 l (i : Int)).f6.length c6], .pointer (some ⟨P0, 0, none⟩), .pointer (some ⟨P1, 0, none⟩)] W fun e W' => e = .returned (.bool (p (rd_T80 l (i : Int)))) ∧ Below W.heap.size W W') :
    Calls Try.prog 74 #[.slice A l.length c, .func (.func 57) #[] #[.pointer (some ⟨P0, 0, none⟩), .pointer (some ⟨P1, 0, none⟩)]] w (IxP (l.any p) w) := by
  have HC := Aside0.mk h
  have HH := Aside0.mk H
  have hm : l.length ≤ 9223372036854775807 := h.2.1
  obtain ⟨R, hR⟩ : ∃ R, R = l.any p := ⟨_, rfl⟩
  rw [← hR]
  have HR := Aside0.mk hR
  clear h H hR
  go_enter Try.func74, Try.ntmps74
  go_wp2
  go_loopw [8] (fun v w' => ∃ i : Nat, v = .int .i64 i ∧ i ≤ l.length ∧ Aside0 (∀ j : Nat, j < i → p (rd_T80 l (j : Int)) = false) ∧ Aside0 (Below w.heap.size w w')) (fun v _ => l.length - (intOf v).toNat)
  case atStart => exact ⟨0, rfl, Nat.zero_le _, ⟨fun j hj => by omega⟩, ⟨Below.refl _ _⟩⟩
  case round =>
    obtain ⟨i, rfl, hi, hb, hB⟩ := hrel
    by_cases hlt : i < l.length
    · obtain ⟨ad, A3, c3, A4, c4, A6, c6, ea, x0, x1, x2, x3, x4, x5, x6, hl3, hC3, hl4, hC4, hl6, hC6⟩ := at_T80 (Kd.C_below HC.out hB.out) (i : Int) (by omega) (by omega)
      subst ea
      simp only [Int.toNat_natCast] at x0 x1 x2 x3 x4 x5 x6
      have HX := Aside0.mk (HH.out i hlt A3 c3 A4 c4 A6 c6 wr hB.out ⟨hl3, hC3, hl4, hC4, hl6, hC6⟩)
      have k0 : (0 : Int) ≤ (i : Int) := by omega
      have k1 : (i : Int) < (l.length : Int) := by omega
      have HBD := Aside0.mk (fun (hp : p (rd_T80 l (i : Int)) = false) => (show ∀ j : Nat, j < i + 1 → p (rd_T80 l (j : Int)) = false from fun j hj => by
          by_cases e : j = i
          · subst e; exact hp
          · exact hb.out j (by omega)))
      have HT := Aside0.mk (fun (hp : p (rd_T80 l (i : Int)) = true) => (show R = true from by
        rw [HR.out, List.any_eq_true]
        refine ⟨l[i], List.getElem_mem hlt, ?_⟩
        rw [← hp]
        simp [rd_T80, List.getD, hlt]))
      obtain ⟨b, hbe⟩ : ∃ b, p (rd_T80 l (i : Int)) = b := ⟨_, rfl⟩
      rw [hbe] at HX HT HBD
      obtain ⟨x, hx⟩ : ∃ x, rd_T80 l (i : Int) = x := ⟨_, rfl⟩
      rw [hx] at x0 x1 x2 x3 x4 x5 x6 HX
      clear hl3 hC3 hl4 hC4 hl6 hC6 hx hbe
      cases b with
      | false =>
        go_wp2_with (first | (go_at_call 57; (with_reducible refine HX.out.mono ?_); rintro e w2 ⟨rfl, hb2⟩; have HB2 := Aside0.mk (below_step hB.out hb2); clear hb2))
        go_roundw
        case rel => exact ⟨i + 1, by go_num, by omega, ⟨HBD.out (by first | trivial | rfl)⟩, HB2⟩
        case measure => simp [intOf]; omega
      | true =>
        go_wp2_with (first | (go_at_call 57; (with_reducible refine HX.out.mono ?_); rintro e w2 ⟨rfl, hb2⟩; have HB2 := Aside0.mk (below_step hB.out hb2); clear hb2))
        go_ret
        refine ⟨⟨(i : Int), rfl, ?_⟩, HB2.out⟩
        rw [HT.out (by first | trivial | rfl)]
        exact decide_eq_true (by omega)
    · obtain rfl : i = l.length := by omega
      go_wp2
      go_ret
      refine ⟨⟨-1, rfl, ?_⟩, hB.out⟩
      rw [HR.out, decide_eq_false (by decide)]
      refine (List.any_eq_false.2 fun x hx => ?_).symm
      obtain ⟨j, hj, rfl⟩ := List.mem_iff_getElem.1 hx
      have := hb.out j hj
      rw [show rd_T80 l (j : Int) = l[j] by simp [rd_T80, List.getD, hj]] at this
      rw [this]
      decide
set_option maxRecDepth 100000 in
theorem contains80 (A : Option Addr) (c : Nat) (l : List S80) (p : S80 → Bool) (P0 P1 : Nat) (w : World) (h : Kd.C k80 w A l.length l)
    (H : ∀ (i : Nat) (hi : i < l.length) (A3 : Option Addr) (c3 : Nat) (A4 : Option Addr) (c4 : Nat) (A6 : Option Addr) (c6 : Nat) (W : World), Below w.heap.size w W → ((rd_T80 l (i : Int)).f3.length ≤ c3 ∧ Kd.C (Kd.int .u8) W A3 (rd_T80 l (i : Int)).f3.length (rd_T80 l (i : Int)).f3 ∧ (rd_T80 l (i : Int)).f4.length ≤ c4 ∧ Kd.C (Kd.int .u8) W A4 (rd_T80 l (i : Int)).f4.length (rd_T80 l (i : Int)).f4 ∧ (rd_T80 l (i : Int)).f6.length ≤ c6 ∧ Kd.C (Kd.slice 5 (Kd.int .u8)) W A6 (rd_T80 l (i : Int)).f6.length (rd_T80 l (i : Int)).f6) → Calls Try.prog 57 #[.agg #[.int .i64 (rd_T80 l (i : Int)).f0, .int .i64 (rd_T80 l (i : Int)).f1, .int .i64 (rd_T80 l (i : Int)).f2, .slice A3 (rd_T80 l (i : Int)).f3.length c3, .slice A4 (rd_T80 l (i : Int)).f4.length c4, .int .i64 (rd_T80 l (i : Int)).f5, .slice A6 (rd_T80 l (i : Int)).f6.length c6], .pointer (some ⟨P0, 0, none⟩), .pointer (some ⟨P1, 0, none⟩)] W fun e W' => e = .returned (.bool (p (rd_T80 l (i : Int)))) ∧ Below W.heap.size W W') :
    Calls Try.prog 58 #[.slice A l.length c, .func (.func 57) #[] #[.pointer (some ⟨P0, 0, none⟩), .pointer (some ⟨P1, 0, none⟩)]] w fun e w' => e = .returned (.bool (l.any p)) ∧ Below w.heap.size w w' := by
  have HX := Aside0.mk (index80 A c l p P0 P1 w h H)
  clear h H
  go_enter Try.func58, Try.ntmps58
  go_wp2_with (first | (go_at_call 74; (with_reducible refine HX.out.mono ?_); rintro e w' ⟨⟨r, rfl, hr⟩, hb⟩; have HR := Aside0.mk hr; have HB := Aside0.mk hb; clear hr hb))
  go_ret
  exact ⟨congrArg (fun z => Ending.returned (Value.bool z)) HR.out, HB.out⟩

set_option maxHeartbeats 4000000 in
set_option maxRecDepth 100000 in
theorem index74 (A : Option Addr) (c : Nat) (l : List S74) (p : S74 → Bool) (P0 : Nat) (w : World) (h : Kd.C k74 w A l.length l)
    (H : ∀ (i : Nat) (hi : i < l.length) (A0 : Option Addr) (c0 : Nat) (W : World), Below w.heap.size w W → ((rd_T74 l (i : Int)).f0.length ≤ c0 ∧ Kd.C k80 W A0 (rd_T74 l (i : Int)).f0.length (rd_T74 l (i : Int)).f0) → Calls Try.prog 55 #[.agg #[.slice A0 (rd_T74 l (i : Int)).f0.length c0, .bool (rd_T74 l (i : Int)).f1, .bool (rd_T74 l (i : Int)).f2], .pointer (some ⟨P0, 0, none⟩)] W fun e W' => e = .returned (.bool (p (rd_T74 l (i : Int)))) ∧ Below W.heap.size W W') :
    Calls Try.prog 72 #[.slice A l.length c, .func (.func 55) #[] #[.pointer (some ⟨P0, 0, none⟩)]] w (IxP (l.any p) w) := by
  have HC := Aside0.mk h
  have HH := Aside0.mk H
  have hm : l.length ≤ 9223372036854775807 := h.2.1
  obtain ⟨R, hR⟩ : ∃ R, R = l.any p := ⟨_, rfl⟩
  rw [← hR]
  have HR := Aside0.mk hR
  clear h H hR
  go_enter Try.func72, Try.ntmps72
  go_wp2
  go_loopw [8] (fun v w' => ∃ i : Nat, v = .int .i64 i ∧ i ≤ l.length ∧ Aside0 (∀ j : Nat, j < i → p (rd_T74 l (j : Int)) = false) ∧ Aside0 (Below w.heap.size w w')) (fun v _ => l.length - (intOf v).toNat)
  case atStart => exact ⟨0, rfl, Nat.zero_le _, ⟨fun j hj => by omega⟩, ⟨Below.refl _ _⟩⟩
  case round =>
    obtain ⟨i, rfl, hi, hb, hB⟩ := hrel
    by_cases hlt : i < l.length
    · obtain ⟨ad, A0, c0, ea, x0, x1, x2, hl1, hC1⟩ := at_T74 (Kd.C_below HC.out hB.out) (i : Int) (by omega) (by omega)
      subst ea
      simp only [Int.toNat_natCast] at x0 x1 x2
      have HX := Aside0.mk (HH.out i hlt A0 c0 wr hB.out ⟨hl1, hC1⟩)
      have k0 : (0 : Int) ≤ (i : Int) := by omega
      have k1 : (i : Int) < (l.length : Int) := by omega
      have HBD := Aside0.mk (fun (hp : p (rd_T74 l (i : Int)) = false) => (show ∀ j : Nat, j < i + 1 → p (rd_T74 l (j : Int)) = false from fun j hj => by
          by_cases e : j = i
          · subst e; exact hp
          · exact hb.out j (by omega)))
      have HT := Aside0.mk (fun (hp : p (rd_T74 l (i : Int)) = true) => (show R = true from by
        rw [HR.out, List.any_eq_true]
        refine ⟨l[i], List.getElem_mem hlt, ?_⟩
        rw [← hp]
        simp [rd_T74, List.getD, hlt]))
      obtain ⟨b, hbe⟩ : ∃ b, p (rd_T74 l (i : Int)) = b := ⟨_, rfl⟩
      rw [hbe] at HX HT HBD
      obtain ⟨x, hx⟩ : ∃ x, rd_T74 l (i : Int) = x := ⟨_, rfl⟩
      rw [hx] at x0 x1 x2 HX
      clear hl1 hC1 hx hbe
      cases b with
      | false =>
        go_wp2_with (first | (go_at_call 55; (with_reducible refine HX.out.mono ?_); rintro e w2 ⟨rfl, hb2⟩; have HB2 := Aside0.mk (below_step hB.out hb2); clear hb2))
        go_roundw
        case rel => exact ⟨i + 1, by go_num, by omega, ⟨HBD.out (by first | trivial | rfl)⟩, HB2⟩
        case measure => simp [intOf]; omega
      | true =>
        go_wp2_with (first | (go_at_call 55; (with_reducible refine HX.out.mono ?_); rintro e w2 ⟨rfl, hb2⟩; have HB2 := Aside0.mk (below_step hB.out hb2); clear hb2))
        go_ret
        refine ⟨⟨(i : Int), rfl, ?_⟩, HB2.out⟩
        rw [HT.out (by first | trivial | rfl)]
        exact decide_eq_true (by omega)
    · obtain rfl : i = l.length := by omega
      go_wp2
      go_ret
      refine ⟨⟨-1, rfl, ?_⟩, hB.out⟩
      rw [HR.out, decide_eq_false (by decide)]
      refine (List.any_eq_false.2 fun x hx => ?_).symm
      obtain ⟨j, hj, rfl⟩ := List.mem_iff_getElem.1 hx
      have := hb.out j hj
      rw [show rd_T74 l (j : Int) = l[j] by simp [rd_T74, List.getD, hj]] at this
      rw [this]
      decide
set_option maxRecDepth 100000 in
theorem contains74 (A : Option Addr) (c : Nat) (l : List S74) (p : S74 → Bool) (P0 : Nat) (w : World) (h : Kd.C k74 w A l.length l)
    (H : ∀ (i : Nat) (hi : i < l.length) (A0 : Option Addr) (c0 : Nat) (W : World), Below w.heap.size w W → ((rd_T74 l (i : Int)).f0.length ≤ c0 ∧ Kd.C k80 W A0 (rd_T74 l (i : Int)).f0.length (rd_T74 l (i : Int)).f0) → Calls Try.prog 55 #[.agg #[.slice A0 (rd_T74 l (i : Int)).f0.length c0, .bool (rd_T74 l (i : Int)).f1, .bool (rd_T74 l (i : Int)).f2], .pointer (some ⟨P0, 0, none⟩)] W fun e W' => e = .returned (.bool (p (rd_T74 l (i : Int)))) ∧ Below W.heap.size W W') :
    Calls Try.prog 54 #[.slice A l.length c, .func (.func 55) #[] #[.pointer (some ⟨P0, 0, none⟩)]] w fun e w' => e = .returned (.bool (l.any p)) ∧ Below w.heap.size w w' := by
  have HX := Aside0.mk (index74 A c l p P0 w h H)
  clear h H
  go_enter Try.func54, Try.ntmps54
  go_wp2_with (first | (go_at_call 72; (with_reducible refine HX.out.mono ?_); rintro e w' ⟨⟨r, rfl, hr⟩, hb⟩; have HR := Aside0.mk hr; have HB := Aside0.mk hb; clear hr hb))
  go_ret
  exact ⟨congrArg (fun z => Ending.returned (Value.bool z)) HR.out, HB.out⟩

set_option maxHeartbeats 4000000 in
set_option maxRecDepth 100000 in
theorem index69 (A : Option Addr) (c : Nat) (l : List (List S74)) (p : (List S74) → Bool) (P0 : Nat) (w : World) (h : Kd.C (Kd.slice 74 k74) w A l.length l)
    (H : ∀ (i : Nat) (hi : i < l.length) (A0 : Option Addr) (c0 : Nat) (W : World), Below w.heap.size w W → ((rd_L10 l (i : Int)).length ≤ c0 ∧ Kd.C k74 W A0 (rd_L10 l (i : Int)).length (rd_L10 l (i : Int))) → Calls Try.prog 53 #[.slice A0 (rd_L10 l (i : Int)).length c0, .pointer (some ⟨P0, 0, none⟩)] W fun e W' => e = .returned (.bool (p (rd_L10 l (i : Int)))) ∧ Below W.heap.size W W') :
    Calls Try.prog 73 #[.slice A l.length c, .func (.func 53) #[] #[.pointer (some ⟨P0, 0, none⟩)]] w (IxP (l.any p) w) := by
  have HC := Aside0.mk h
  have HH := Aside0.mk H
  have hm : l.length ≤ 9223372036854775807 := h.2.1
  obtain ⟨R, hR⟩ : ∃ R, R = l.any p := ⟨_, rfl⟩
  rw [← hR]
  have HR := Aside0.mk hR
  clear h H hR
  go_enter Try.func73, Try.ntmps73
  go_wp2
  go_loopw [8] (fun v w' => ∃ i : Nat, v = .int .i64 i ∧ i ≤ l.length ∧ Aside0 (∀ j : Nat, j < i → p (rd_L10 l (j : Int)) = false) ∧ Aside0 (Below w.heap.size w w')) (fun v _ => l.length - (intOf v).toNat)
  case atStart => exact ⟨0, rfl, Nat.zero_le _, ⟨fun j hj => by omega⟩, ⟨Below.refl _ _⟩⟩
  case round =>
    obtain ⟨i, rfl, hi, hb, hB⟩ := hrel
    by_cases hlt : i < l.length
    · obtain ⟨ad, A0, c0, ea, x0, hl1, hC1⟩ := at_L10 (Kd.C_below HC.out hB.out) (i : Int) (by omega) (by omega)
      subst ea
      simp only [Int.toNat_natCast] at x0
      have HX := Aside0.mk (HH.out i hlt A0 c0 wr hB.out ⟨hl1, hC1⟩)
      have k0 : (0 : Int) ≤ (i : Int) := by omega
      have k1 : (i : Int) < (l.length : Int) := by omega
      have HBD := Aside0.mk (fun (hp : p (rd_L10 l (i : Int)) = false) => (show ∀ j : Nat, j < i + 1 → p (rd_L10 l (j : Int)) = false from fun j hj => by
          by_cases e : j = i
          · subst e; exact hp
          · exact hb.out j (by omega)))
      have HT := Aside0.mk (fun (hp : p (rd_L10 l (i : Int)) = true) => (show R = true from by
        rw [HR.out, List.any_eq_true]
        refine ⟨l[i], List.getElem_mem hlt, ?_⟩
        rw [← hp]
        simp [rd_L10, List.getD, hlt]))
      obtain ⟨b, hbe⟩ : ∃ b, p (rd_L10 l (i : Int)) = b := ⟨_, rfl⟩
      rw [hbe] at HX HT HBD
      obtain ⟨x, hx⟩ : ∃ x, rd_L10 l (i : Int) = x := ⟨_, rfl⟩
      rw [hx] at x0 HX
      clear hl1 hC1 hx hbe
      cases b with
      | false =>
        go_wp2_with (first | (go_at_call 53; (with_reducible refine HX.out.mono ?_); rintro e w2 ⟨rfl, hb2⟩; have HB2 := Aside0.mk (below_step hB.out hb2); clear hb2))
        go_roundw
        case rel => exact ⟨i + 1, by go_num, by omega, ⟨HBD.out (by first | trivial | rfl)⟩, HB2⟩
        case measure => simp [intOf]; omega
      | true =>
        go_wp2_with (first | (go_at_call 53; (with_reducible refine HX.out.mono ?_); rintro e w2 ⟨rfl, hb2⟩; have HB2 := Aside0.mk (below_step hB.out hb2); clear hb2))
        go_ret
        refine ⟨⟨(i : Int), rfl, ?_⟩, HB2.out⟩
        rw [HT.out (by first | trivial | rfl)]
        exact decide_eq_true (by omega)
    · obtain rfl : i = l.length := by omega
      go_wp2
      go_ret
      refine ⟨⟨-1, rfl, ?_⟩, hB.out⟩
      rw [HR.out, decide_eq_false (by decide)]
      refine (List.any_eq_false.2 fun x hx => ?_).symm
      obtain ⟨j, hj, rfl⟩ := List.mem_iff_getElem.1 hx
      have := hb.out j hj
      rw [show rd_L10 l (j : Int) = l[j] by simp [rd_L10, List.getD, hj]] at this
      rw [this]
      decide
set_option maxRecDepth 100000 in
theorem contains69 (A : Option Addr) (c : Nat) (l : List (List S74)) (p : (List S74) → Bool) (P0 : Nat) (w : World) (h : Kd.C (Kd.slice 74 k74) w A l.length l)
    (H : ∀ (i : Nat) (hi : i < l.length) (A0 : Option Addr) (c0 : Nat) (W : World), Below w.heap.size w W → ((rd_L10 l (i : Int)).length ≤ c0 ∧ Kd.C k74 W A0 (rd_L10 l (i : Int)).length (rd_L10 l (i : Int))) → Calls Try.prog 53 #[.slice A0 (rd_L10 l (i : Int)).length c0, .pointer (some ⟨P0, 0, none⟩)] W fun e W' => e = .returned (.bool (p (rd_L10 l (i : Int)))) ∧ Below W.heap.size W W') :
    Calls Try.prog 56 #[.slice A l.length c, .func (.func 53) #[] #[.pointer (some ⟨P0, 0, none⟩)]] w fun e w' => e = .returned (.bool (l.any p)) ∧ Below w.heap.size w w' := by
  have HX := Aside0.mk (index69 A c l p P0 w h H)
  clear h H
  go_enter Try.func56, Try.ntmps56
  go_wp2_with (first | (go_at_call 73; (with_reducible refine HX.out.mono ?_); rintro e w' ⟨⟨r, rfl, hr⟩, hb⟩; have HR := Aside0.mk hr; have HB := Aside0.mk hb; clear hr hb))
  go_ret
  exact ⟨congrArg (fun z => Ending.returned (Value.bool z)) HR.out, HB.out⟩
end Go.Proofs.Ytecdnhmdodedmaa.Ch
