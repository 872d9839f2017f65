/- The law RowWrites' call. -/
import Derived.Test.YtmpbcmnnlkienaaReads
namespace Go.Proofs.Ytmpbcmnnlkienaa.Of
open Go.RowKit Go.Proofs.YtmpbcmnnlkienaaW.PrintWords Go.Proofs.YtmpbcmnnlkienaaW.PrintLast Go.Proofs.YtmpbcmnnlkienaaW.PrintMore Go.Proofs.Ytmpbcmnnlkienaa.HS Go.Proofs.Ytmpbcmnnlkienaa.Pure
set_option linter.unusedVariables false
set_option linter.unusedSimpArgs false
theorem size_call {A : Option Addr} {c : Nat} {l : List (List Int)} {w : World} (hA : Kd.C (Kd.slice 5 (Kd.int .u8)) w A l.length l) (hc : l.length ≤ c) (n : Nat) (hn : garnerref13_Size.f (l.length + 1) l = some (n : Int)) :
    Calls Try.prog 20 #[.slice A l.length c] w fun e w' => e = .returned (.int .i64 (n : Int)) ∧ Below w.heap.size w w' := garnerref13_Size.calls (l.length + 1) A c l _ w hA hc hn
theorem writes_known (n : Int) (w : World) : Calls Try.prog 10 #[] w (RightPost w) := known_call w
set_option maxHeartbeats 8000000 in
set_option maxRecDepth 100000 in
theorem writes_big (A B : Option Addr) (c d : Nat) (l : List (List Int)) (kk : List Int) (w : World) (hA : Kd.C (Kd.slice 5 (Kd.int .u8)) w A l.length l) (hc : l.length ≤ c) (hB : Kd.C (Kd.int .u8) w B kk.length kk) (hd : kk.length ≤ d) (n : Nat) (hn : garnerref13_Size.f (l.length + 1) l = some (n : Int)) (hbig : 9000 < n ∨ 9000 < kk.length) :
    Calls Try.prog 6 #[.slice A l.length c, .slice B kk.length d] w (RightPost w) := by
  have hl := hB.2.1
  have HS := Aside0.mk (size_call hA hc n hn)
  clear hA hB hn
  by_cases h1 : 9000 < n
  · have g1 : decide ((9000 : Int) < (n : Int)) = true := by simp; omega
    clear hbig h1
    go_enter Try.func6, Try.ntmps6
    go_wp2_with (first | (go_at_call 20; refine HS.out.mono ?_; rintro e w1 ⟨rfl, hb1⟩; have HB1 := Aside0.mk hb1; clear hb1) | (go_at_call 10; refine (known_call _).mono ?_; rintro e w2 ⟨rfl, hb2⟩; have HB2 := Aside0.mk hb2; clear hb2))
    go_ret
    exact ⟨rfl, below_step HB1.out HB2.out⟩
  · have h2 : 9000 < kk.length := by omega
    have g1 : decide ((9000 : Int) < (n : Int)) = false := by simp; omega
    clear hbig h1
    go_enter Try.func6, Try.ntmps6
    go_wp2_with (first | (go_at_call 20; refine HS.out.mono ?_; rintro e w1 ⟨rfl, hb1⟩; have HB1 := Aside0.mk hb1; clear hb1) | (go_at_call 10; refine (known_call _).mono ?_; rintro e w2 ⟨rfl, hb2⟩; have HB2 := Aside0.mk hb2; clear hb2))
    go_ret
    exact ⟨rfl, below_step HB1.out HB2.out⟩
theorem may_call {A : Option Addr} {c : Nat} {l : List (List Int)} {w : World} (hA : Kd.C (Kd.slice 5 (Kd.int .u8)) w A l.length l) (hc : l.length ≤ c) :
    Calls Try.prog 27 #[.slice A l.length c] w fun e w' => e = .returned (.bool (mayB l)) ∧ Drawn0 w w' := row_May.calls A c l _ w hA hc rfl
theorem refMay_call {A : Option Addr} {c : Nat} {l : List (List Int)} {w : World} (hA : Kd.C (Kd.slice 5 (Kd.int .u8)) w A l.length l) (hc : l.length ≤ c) (hl : l.length < 1000000000000000) :
    Calls Try.prog 28 #[.slice A l.length c] w fun e w' => e = .returned (.bool (mayB l)) ∧ Drawn0 w w' := garnerref13_May.calls 10 A c l _ w hA hc (refMay_eq l hl 10 (by omega))
def mayK (k : List Int) : Bool := decide (1 ≤ k.length ∧ k.length ≤ 32)
theorem mayKey_f (k : List Int) : row_MayKey.f k = some (mayK k) := by
  unfold row_MayKey.f mayK
  by_cases h1 : 1 ≤ k.length
  · rw [if_pos (by omega)]
    by_cases h2 : k.length ≤ 32
    · rw [decide_eq_true (by omega), decide_eq_true ⟨h1, h2⟩]
    · rw [decide_eq_false (by omega), decide_eq_false (fun h => h2 h.2)]
  · rw [if_neg (by omega), decide_eq_false (fun h => h1 h.1)]
theorem mayKey_call {A : Option Addr} {c : Nat} {k : List Int} {w : World} (hA : Kd.C (Kd.int .u8) w A k.length k) (hc : k.length ≤ c) :
    Calls Try.prog 19 #[.slice A k.length c] w fun e w' => e = .returned (.bool (mayK k)) ∧ Drawn0 w w' := row_MayKey.calls A c k _ w hA hc (mayKey_f k)
theorem refMayKey_call {A : Option Addr} {c : Nat} {k : List Int} {w : World} (hA : Kd.C (Kd.int .u8) w A k.length k) (hc : k.length ≤ c) :
    Calls Try.prog 17 #[.slice A k.length c] w fun e w' => e = .returned (.bool (mayK k)) ∧ Drawn0 w w' := garnerref13_MayKey.calls A c k _ w hA hc (mayKey_f k)
theorem rowSame_call {A B : Option Addr} {c d : Nat} {a b : List (List Int)} {w : World} (hA : Kd.C (Kd.slice 5 (Kd.int .u8)) w A a.length a) (hc : a.length ≤ c) (hB : Kd.C (Kd.slice 5 (Kd.int .u8)) w B b.length b) (hd : b.length ≤ d) (ha : Byts a) (hb : Byts b) (r : Bool) (hr : r = decide (a = b)) :
    Calls Try.prog 23 #[.slice A a.length c, .slice B b.length d] w fun e w' => e = .returned (.bool r) ∧ Drawn0 w w' := by
  subst hr
  exact row_Same.calls A c a B d b _ w hA hc hB hd (same_eq ha hb)
def CopyPost (l : List (List Int)) (w : World) (e : Ending) (w' : World) : Prop := ∃ (A : Option Addr) (c : Nat), e = .returned (.slice A l.length c) ∧ l.length ≤ c ∧ Kd.C (Kd.slice 5 (Kd.int .u8)) w' A l.length l ∧ Rd.Rows w' w.heap.size (.slice A l.length c) l ∧ Below w.heap.size w w'
theorem copy_out {l : List (List Int)} {w w' : World} {e : Ending} (h : ∃ v0_ : Value, e = .returned (v0_) ∧ Kd.S (Kd.slice 5 (Kd.int .u8)) 22 w' w.heap.size (fun _ => True) v0_ l ∧ Below w.heap.size w w') : CopyPost l w e w' := by
  obtain ⟨v, rfl, ho, hb⟩ := h
  obtain ⟨A, c, rfl, h1, h2⟩ := Kd.S_reads ho
  exact ⟨A, c, rfl, h1, h2, ho, hb⟩
theorem refCopy_call {A : Option Addr} {c : Nat} {l : List (List Int)} {w : World} (hA : Kd.C (Kd.slice 5 (Kd.int .u8)) w A l.length l) (hc : l.length ≤ c) (hs : sz l ≤ 9000) :
    Calls Try.prog 25 #[.slice A l.length c] w (CopyPost l w) := (garnerref13_Copy.calls 9001 A c l l w hA hc (refCopy_eq l hs 9001 (by omega))).mono fun _ _ h => copy_out h
theorem copy_call {A : Option Addr} {c : Nat} {l : List (List Int)} {w : World} (hA : Kd.C (Kd.slice 5 (Kd.int .u8)) w A l.length l) (hc : l.length ≤ c) (hs : sz l ≤ 9000) :
    Calls Try.prog 26 #[.slice A l.length c] w (CopyPost l w) := by
  refine (row_Copy.calls A c l l w hA hc ?_).mono fun _ _ h => copy_out h
  unfold row_Copy.f
  have h1 : l.length ≤ 9000 := by unfold sz at hs; omega
  rw [if_pos ⟨by omega, fun f hf => by have := sum_mem hf; unfold sz at hs; omega⟩]
theorem bytes_call {A : Option Addr} {c : Nat} {l : List (List Int)} {w : World} (hA : Kd.C (Kd.slice 5 (Kd.int .u8)) w A l.length l) (hc : l.length ≤ c) :
    Calls Try.prog 21 #[.slice A l.length c] w (RowPost .u8 (if mayB l = true then rowB l else []) (if mayB l = true then 0 else 2) w) := by
  refine (row_Bytes.calls A c l (if mayB l = true then rowB l else []) (if mayB l = true then 0 else 2) w hA hc (by unfold row_Bytes.f; split <;> rfl)).mono fun e w' hp => ?_
  obtain ⟨v, rfl, hr, hb⟩ := hp
  obtain ⟨A', c', rfl, h1, h2⟩ := Kd.R_reads hr
  exact ⟨A', c', rfl, h1, h2, hb⟩
theorem refBytes_call {A : Option Addr} {c : Nat} {l : List (List Int)} {w : World} (hA : Kd.C (Kd.slice 5 (Kd.int .u8)) w A l.length l) (hc : l.length ≤ c) (hm : mayB l = true) :
    Calls Try.prog 30 #[.slice A l.length c] w fun e w' => ∃ (A' : Option Addr) (c' : Nat), e = .returned (.slice A' (rowB l).length c') ∧ (rowB l).length ≤ c' ∧ Kd.C (Kd.int .u8) w' A' (rowB l).length (rowB l) ∧ Below w.heap.size w w' := by
  refine (garnerref13_Bytes.calls 10 A c l _ w hA hc (refBytes_eq hm 10 (by omega))).mono fun e w' hp => ?_
  obtain ⟨v, rfl, hr, hb⟩ := hp
  obtain ⟨A', c', rfl, h1, h2⟩ := Kd.R_reads hr
  exact ⟨A', c', rfl, h1, h2, hb⟩
set_option maxHeartbeats 8000000 in
set_option maxRecDepth 100000 in
theorem writes_walk (A B : Option Addr) (c d : Nat) (l : List (List Int)) (kk : List Int) (w : World) (hA : Kd.C (Kd.slice 5 (Kd.int .u8)) w A l.length l) (hc : l.length ≤ c) (hB : Kd.C (Kd.int .u8) w B kk.length kk) (hd : kk.length ≤ d) (hY : Byts l) (n : Nat) (hn : garnerref13_Size.f (l.length + 1) l = some (n : Int)) (hn9 : n ≤ 9000) (hs : sz l ≤ 9000) (hk9 : kk.length ≤ 9000) :
    Calls Try.prog 6 #[.slice A l.length c, .slice B kk.length d] w (RightPost w) := by
  have HA := Aside0.mk hA
  have HB := Aside0.mk hB
  have HYY := Aside0.mk hY
  have HSZ := Aside0.mk hs
  have HS := Aside0.mk (size_call hA hc n hn)
  have hl9 : l.length ≤ 9000 := by unfold sz at hs; omega
  have hf9 : ∀ f ∈ l, f.length ≤ 9000 := fun f hf => by have := sum_mem hf; unfold sz at hs; omega
  have HF := Aside0.mk hf9
  obtain ⟨m, hm⟩ : ∃ m, m = mayB l := ⟨_, rfl⟩
  have CM := Aside0.mk (fun (A : Option Addr) (c : Nat) (W : World) (h1 : Kd.C (Kd.slice 5 (Kd.int .u8)) W A l.length l) (h2 : l.length ≤ c) => may_call h1 h2)
  have CRM := Aside0.mk (fun (A : Option Addr) (c : Nat) (W : World) (h1 : Kd.C (Kd.slice 5 (Kd.int .u8)) W A l.length l) (h2 : l.length ≤ c) => refMay_call h1 h2 (by omega))
  have CB := Aside0.mk (fun (A : Option Addr) (c : Nat) (W : World) (h1 : Kd.C (Kd.slice 5 (Kd.int .u8)) W A l.length l) (h2 : l.length ≤ c) => bytes_call h1 h2)
  have CW := Aside0.mk (fun (A : Option Addr) (c : Nat) (W : World) (h1 : Kd.C (Kd.slice 5 (Kd.int .u8)) W A l.length l) (h2 : l.length ≤ c) => words_call A c l W h1 h2 hY)
  rw [← hm] at CM CRM CB CW
  obtain ⟨xb, hxb⟩ : ∃ xb, xb = (if m = true then rowB l else []) := ⟨_, rfl⟩
  obtain ⟨xw, hxw⟩ : ∃ xw, xw = (if m = true then wordsB (rowB l) else []) := ⟨_, rfl⟩
  obtain ⟨xe, hxe⟩ : ∃ xe : Int, xe = (if m = true then 0 else 2) := ⟨_, rfl⟩
  rw [← hxb, ← hxe] at CB
  rw [← hxw, ← hxe] at CW
  obtain ⟨mk, hmk⟩ : ∃ mk, mk = mayK kk := ⟨_, rfl⟩
  have HM := Aside0.mk hm
  have HXB := Aside0.mk hxb
  have HXW := Aside0.mk hxw
  have HXE := Aside0.mk hxe
  have CK := Aside0.mk (fun (W : World) (h1 : Kd.C (Kd.int .u8) W B kk.length kk) => mayKey_call h1 hd)
  have CRK := Aside0.mk (fun (W : World) (h1 : Kd.C (Kd.int .u8) W B kk.length kk) => refMayKey_call h1 hd)
  rw [← hmk] at CK CRK
  have g1 : decide ((9000 : Int) < (n : Int)) = false := by simp; omega
  clear hA hB hY hn hs hf9 hm hxb hxw hxe hmk
  go_enter Try.func6, Try.ntmps6
  go_wp2_with (first | (go_at_call 20; refine HS.out.mono ?_; rintro e w1 ⟨rfl, hb1⟩; have HB1 := Aside0.mk hb1; have HA1 := Aside0.mk (Kd.C_below HA.out hb1); clear hb1) | (go_at_call 25; refine (refCopy_call HA1.out hc HSZ.out).mono ?_; rintro e w2 ⟨A2, c2, rfl, hc2, hC2, hR2, hb2⟩; have HR2 := Aside0.mk hR2; have HC2 := Aside0.mk hC2; have HB2 := Aside0.mk (below_step HB1.out hb2); clear hC2 hR2 hb2) | (go_at_call 21; refine (CB.out A2 c2 w2 HC2.out hc2).mono ?_; rintro e w3 ⟨A3, c3, rfl, hc3, hC3, hb3⟩; have HC3 := Aside0.mk hC3; have HB3 := Aside0.mk (below_step HB2.out hb3); have HC23 := Aside0.mk (Kd.C_below HC2.out hb3); clear hC3 hb3) | (go_at_call 22; refine (CW.out A2 c2 w3 HC23.out hc2).mono ?_; rintro e w4 ⟨A4, c4, rfl, hc4, hC4, hb4⟩; have HC4 := Aside0.mk hC4; have HB4 := Aside0.mk (below_step HB3.out hb4); have HC24 := Aside0.mk (Kd.C_below HC23.out hb4); have HC34 := Aside0.mk (Kd.C_below HC3.out hb4); clear hC4 hb4) | (go_at_call 26; refine (copy_call HC24.out hc2 HSZ.out).mono ?_; rintro e w5 ⟨A5, c5, rfl, hc5, hC5, hR5, hb5⟩; have HR5 := Aside0.mk hR5; have HC5 := Aside0.mk hC5; have HB45 := Aside0.mk hb5; have HB5 := Aside0.mk (below_step HB4.out hb5); have HC25 := Aside0.mk (Kd.C_below HC24.out hb5); have HA5 := Aside0.mk (Kd.C_below HA.out HB5.out); have HK5 := Aside0.mk (Kd.C_below HB.out HB5.out); clear hC5 hR5 hb5) | (go_at_call 27; refine (CM.out A2 c2 w5 HC25.out hc2).mono ?_; rintro e w6 ⟨rfl, ⟨n6, rfl⟩⟩) | (go_at_call 28; refine (CRM.out A c _ (by first | exact HA5.out | exact Kd.C_drewN HA5.out _ | exact Kd.C_drewN (Kd.C_drewN HA5.out _) _) hc).mono ?_; rintro e w6 ⟨rfl, ⟨n7, rfl⟩⟩) | (go_at_call 19; refine (CK.out _ (by first | exact HK5.out | exact Kd.C_drewN HK5.out _ | exact Kd.C_drewN (Kd.C_drewN HK5.out _) _)).mono ?_; rintro e w6 ⟨rfl, ⟨n8, rfl⟩⟩) | (go_at_call 17; refine (CRK.out _ (by first | exact HK5.out | exact Kd.C_drewN HK5.out _ | exact Kd.C_drewN (Kd.C_drewN HK5.out _) _)).mono ?_; rintro e w6 ⟨rfl, ⟨n9, rfl⟩⟩) | ((with_reducible refine (same_call (A := A2) (B := A) (a := l) (b := l) (by first | exact HC25.out | exact Kd.C_drewN HC25.out _ | exact Kd.C_drewN (Kd.C_drewN HC25.out _) _) hc2 (by first | exact HA5.out | exact Kd.C_drewN HA5.out _ | exact Kd.C_drewN (Kd.C_drewN HA5.out _) _) hc HYY.out HYY.out (by omega) true (by simp)).mono ?_); rintro e w6 ⟨rfl, ⟨n10, rfl⟩⟩) | ((with_reducible refine (same_call (A := A5) (B := A) (a := l) (b := l) (by first | exact HC5.out | exact Kd.C_drewN HC5.out _ | exact Kd.C_drewN (Kd.C_drewN HC5.out _) _) hc5 (by first | exact HA5.out | exact Kd.C_drewN HA5.out _ | exact Kd.C_drewN (Kd.C_drewN HA5.out _) _) hc HYY.out HYY.out (by omega) true (by simp)).mono ?_); rintro e w6 ⟨rfl, ⟨n11, rfl⟩⟩) | ((with_reducible refine (rowSame_call (A := A2) (B := A5) (a := l) (b := l) (by first | exact HC25.out | exact Kd.C_drewN HC25.out _ | exact Kd.C_drewN (Kd.C_drewN HC25.out _) _) hc2 (by first | exact HC5.out | exact Kd.C_drewN HC5.out _ | exact Kd.C_drewN (Kd.C_drewN HC5.out _) _) hc5 HYY.out HYY.out true (by simp)).mono ?_); rintro e w6 ⟨rfl, ⟨n12, rfl⟩⟩))
  go_loopw [12] (fun i w' => ∃ (k : Nat) (xs : List (List Int)), i = .int .i64 k ∧ k ≤ l.length ∧ Aside0 (lens xs = lens l) ∧ Aside0 (Rd.Rows w' w4.heap.size (.slice A5 l.length c5) xs) ∧ Aside0 (Below w4.heap.size w4 w')) (fun i _ => l.length - (intOf i).toNat)
  case atStart => exact ⟨0, l, rfl, Nat.zero_le _, ⟨rfl⟩, ⟨by first | exact HR5.out | exact Kd.S_drewN HR5.out _ | exact Kd.S_drewN (Kd.S_drewN HR5.out _) _⟩, ⟨by first | exact HB45.out | exact pw_below_drewN HB45.out _ | exact pw_below_drewN (pw_below_drewN HB45.out _) _⟩⟩
  case round =>
    obtain ⟨k, xs, rfl, hk, hle, hro, hbe⟩ := hrel
    by_cases hlt : k < l.length
    · have hlx := lens_len hle.out
      have hkx : k < xs.length := by omega
      obtain ⟨ad, B0, c0, e0, hx0, hc0, hD0⟩ := Rd.C_row_get (Kd.S_reads' hro.out).2.2 k hkx
      subst e0
      have hk0 : (0 : Int) ≤ (k : Int) := by omega
      have hk1 : (k : Int) < (l.length : Int) := by omega
      obtain ⟨q, hq⟩ : ∃ q, q = (l[k]).length := ⟨_, rfl⟩
      have HQ := Aside0.mk hq
      have hqm : q ≤ 9000 := by rw [hq]; exact HF.out _ (List.getElem_mem hlt)
      clear hlx hx0 hc0 hD0 hq
      go_wp2
      obtain ⟨wo, hwo⟩ : ∃ wo : World, wo = wr := ⟨_, rfl⟩
      subst hwo
      go_loopw [13] (fun i w' => ∃ (j : Nat) (ys : List (List Int)), i = .int .i64 j ∧ j ≤ q ∧ Aside0 (lens ys = lens l) ∧ Aside0 (Rd.Rows w' w4.heap.size (.slice (some ad) l.length c5) ys) ∧ Aside0 (Below w4.heap.size w4 w')) (fun i _ => q - (intOf i).toNat)
      case atStart => exact ⟨0, xs, rfl, Nat.zero_le _, hle, hro, hbe⟩
      case round =>
        obtain ⟨j, ys, rfl, hj, hle2, hro2, hbe2⟩ := hrel
        have hly := lens_len hle2.out
        have hky : k < ys.length := by omega
        have hlen4 := lens_at hle2.out k hky hlt
        by_cases hjq : j < q
        · have hjy : j < (ys[k]).length := by rw [hlen4, ← HQ.out]; exact hjq
          obtain ⟨g, c7, f1, f2, f3, f4, f5, f6⟩ := rows_poke hro2.out k hky j hjy
          obtain ⟨v, hv⟩ : ∃ v, v = rd ys[k] (j : Int) := ⟨_, rfl⟩
          rw [← hv] at f3
          have F6 := Aside0.mk (f6 (bits .xor .u8 v 1))
          have hset := lens_set k hky ((ys[k]).set j (bits .xor .u8 v 1)) (by rw [List.length_set])
          have HSET := Aside0.mk (hset.trans hle2.out)
          have hys : (ys[k]).length = q := by rw [hlen4, ← HQ.out]
          rw [hys] at f1 f2
          have j0 : (0 : Int) ≤ (j : Int) := by omega
          have j1 : (j : Int) < (q : Int) := by omega
          clear f5 f6 hset hys hlen4 hly hv
          go_wp2
          go_still_tail 14, (by kernel_rfl)
          change wpList _ _ _ _ _ wr.drew
          go_wp2
          exact ⟨⟨j + 1, _, by simp, by omega, HSET, ⟨Kd.S_drew F6.out.1⟩, ⟨below_drew (hbe2.out.trans F6.out.2)⟩⟩, by simp [intOf]; omega⟩
        · obtain rfl : j = q := by omega
          obtain ⟨ad2, B1, c1, e1_, hx1, hc1, hD1⟩ := Rd.C_row_get (Kd.S_reads' hro2.out).2.2 k hky
          cases e1_
          rw [show (ys[k]).length = j from by rw [hlen4, ← HQ.out]] at hx1
          clear hc1 hD1 hlen4 hly
          go_wp2
          exact ⟨⟨k + 1, ys, by simp, by omega, hle2, hro2, hbe2⟩, by simp [intOf]; omega⟩
    · obtain rfl : k = l.length := by omega
      have HAr := Aside0.mk (Kd.C_below (Kd.C_below HA.out HB4.out) hbe.out)
      have HC2r := Aside0.mk (Kd.C_below HC24.out hbe.out)
      have HC3r := Aside0.mk (Kd.C_below HC34.out hbe.out)
      have HC4r := Aside0.mk (Kd.C_below HC4.out hbe.out)
      have HBr := Aside0.mk (HB4.out.trans (hbe.out.mono HB4.out.size))
      clear HC24 HC34 HC4 HC25 HC5 HA5 HK5 hle hro HB45 HR5
      cases m with
      | false =>
        have hx1 : xb = [] := by rw [HXB.out, if_neg (by decide)]
        have hx2 : xw = [] := by rw [HXW.out, if_neg (by decide)]
        have hx3 : xe = 2 := by rw [HXE.out, if_neg (by decide)]
        subst hx1 hx2 hx3
        go_wp2_with (first | ((with_reducible refine (same_call (A := A2) (B := A) (a := l) (b := l) (w := wr) HC2r.out hc2 HAr.out hc HYY.out HYY.out (by omega) true (by simp)).mono ?_); rintro e w6 ⟨rfl, ⟨m1, rfl⟩⟩) | (go_at_call 28; refine (CRM.out A c _ (by first | exact HAr.out | exact Kd.C_drewN HAr.out _ | exact Kd.C_drewN (Kd.C_drewN HAr.out _) _) hc).mono ?_; rintro e w6 ⟨rfl, ⟨m2, rfl⟩⟩) | (go_at_call 13; refine (num_call _ _).mono ?_; rintro e w8 ⟨rfl, ⟨m3, rfl⟩⟩) | (go_at_call 10; refine (known_call _).mono ?_; rintro e w10 ⟨rfl, hb10⟩; have HB10 := Aside0.mk hb10; clear hb10))
        go_ret
        exact ⟨rfl, below_step (by first | exact pw_below_drewN HBr.out _ | exact pw_below_drewN (pw_below_drewN HBr.out _) _) HB10.out⟩
      | true =>
        have hx1 : xb = rowB l := by rw [HXB.out, if_pos rfl]
        have hx2 : xw = wordsB (rowB l) := by rw [HXW.out, if_pos rfl]
        have hx3 : xe = 0 := by rw [HXE.out, if_pos rfl]
        subst hx3
        have hm := HM.out.symm
        have CRB := Aside0.mk (fun (W : World) (h1 : Kd.C (Kd.slice 5 (Kd.int .u8)) W A l.length l) => refBytes_call h1 hc hm)
        have CRW := Aside0.mk (fun (W : World) (h1 : Kd.C (Kd.slice 5 (Kd.int .u8)) W A l.length l) => refWords_call A c l W h1 hc HYY.out hm)
        rw [← hx1] at CRB CRW
        rw [← hx1] at hx2
        rw [← hx2] at CRW
        have hw11 : xw.length ≤ 11 := by rw [hx2, wordsB_len, hx1]; have := rowB_len hm; omega
        have hxb : xb.length ≤ 100000 := by rw [hx1]; have := rowB_len hm; omega
        clear hx1 hx2 hm
        go_wp2_with (first | ((with_reducible refine (same_call (A := A2) (B := A) (a := l) (b := l) (w := wr) HC2r.out hc2 HAr.out hc HYY.out HYY.out (by omega) true (by simp)).mono ?_); rintro e w6 ⟨rfl, ⟨m1, rfl⟩⟩) | (go_at_call 28; refine (CRM.out A c _ (by first | exact HAr.out | exact Kd.C_drewN HAr.out _ | exact Kd.C_drewN (Kd.C_drewN HAr.out _) _) hc).mono ?_; rintro e w6 ⟨rfl, ⟨m2, rfl⟩⟩) | (go_at_call 29; refine (CRW.out _ (by first | exact HAr.out | exact Kd.C_drewN HAr.out _ | exact Kd.C_drewN (Kd.C_drewN HAr.out _) _)).mono ?_; rintro e w7 ⟨A7, c7, rfl, hc7, hC7, hb7⟩; have HC7 := Aside0.mk hC7; have HB7 := Aside0.mk hb7; clear hC7 hb7))
        have HR7 := Aside0.mk (show Below wr.heap.size wr w7 from below_step (by first | exact pw_below_drewN (Below.refl _ _) _ | exact pw_below_drewN (pw_below_drewN (Below.refl _ _) _) _) HB7.out)
        have HA7 := Aside0.mk (Kd.C_below HAr.out HR7.out)
        have HC37 := Aside0.mk (Kd.C_below HC3r.out HR7.out)
        have HC47 := Aside0.mk (Kd.C_below HC4r.out HR7.out)
        clear HB7
        have hs1 := (Kd.C_string (P := Try.prog) (src := 22) (dst := 9) (A := A3) (c := c3) Try.underlying22 Try.underlying5 Try.underlying9 (Kd.C_drewN HC37.out 1))
        have HD := Aside0.mk (below_drew (Below.refl w7.heap.size w7))
        have hw12 : decide ((11 : Int) < (xw.length : Int)) = false := decide_eq_false (by omega)
        have hz0 : wrap64 (0 + 0) = 0 := by decide +kernel
        have hz1 : IntKind.i64.wrap (0 + 0) = 0 := by decide
        have hz2 : IntKind.i64.wrap 0 = 0 := by decide
        have hz3 : wrap64 0 = 0 := by decide +kernel
        have hlne : ((xw.length : Int) != (xw.length : Int)) = false := by simp
        have hleq : ((xw.length : Int) == (xw.length : Int)) = true := by simp
        have hlne2 : (xw.length != xw.length) = false := by simp
        have hleq2 : (xw.length == xw.length) = true := by simp
        refine start_ (n := 26) (S := fun w' => Sem.run Try.prog (Go.convert 22 9 (.slice A3 xb.length c3)) w' = .ok (.string (strOfNums xb)) w') (ds := []) #[false, false, false, false, false, false, false, false, false, false, false, false, false, false, false, false, false, false, false, false, false, false, false, false, false, false] (by kernel_rfl) rfl rfl hs1 (fun hHeld => ?_)
        generalize w7.drew = w8 at hHeld HD ⊢
        refine pure_ (i := 0) (N := some 129) (v := ?_) (a' := ?_) #[true, false, false, false, false, false, false, false, false, false, false, false, false, false, false, false, false, false, false, false, false, false, false, false, false, false] rfl rfl (by kernel_rfl) (fun _ _ _ h => h) (Or.inl ⟨by rfl, ?_⟩) ?_ ?_
        rotate_left
        · intro w'
          go_simp
          with_reducible rfl
        rotate_left
        · simp only [Act.put, List.setIfInBounds_toArray, List.set_cons_zero, List.set_cons_succ, i64_w, i32_w]
          rfl
        refine take_ (i := 1) (N := some 130) (v := ?_) (a' := ?_) #[true, true, false, false, false, false, false, false, false, false, false, false, false, false, false, false, false, false, false, false, false, false, false, false, false, false] rfl rfl (by kernel_rfl) (fun _ _ _ h => h) (Or.inl ⟨by rfl, ?_⟩) hHeld ?_ ?_
        rotate_left
        · intro w' s0
          go_simp
          with_reducible rfl
        rotate_left
        · simp only [Act.put, List.setIfInBounds_toArray, List.set_cons_zero, List.set_cons_succ, i64_w, i32_w]
          rfl
        refine pure_ (i := 2) (N := some 131) (v := ?_) (a' := ?_) #[true, true, true, false, false, false, false, false, false, false, false, false, false, false, false, false, false, false, false, false, false, false, false, false, false, false] rfl rfl (by kernel_rfl) (fun _ _ _ h => h) (Or.inl ⟨by rfl, ?_⟩) ?_ ?_
        rotate_left
        · intro w'
          go_simp
          with_reducible rfl
        rotate_left
        · simp only [Act.put, List.setIfInBounds_toArray, List.set_cons_zero, List.set_cons_succ, i64_w, i32_w]
          rfl
        refine one_ (i := 3) (N := some 132) #[true, true, true, true, false, false, false, false, false, false, false, false, false, false, false, false, false, false, false, false, false, false, false, false, false, false] rfl rfl (by kernel_rfl) (by decide) (fun K hK => ?_)
        refine goes_ Try.func30 (by kernel_rfl) rfl #[.slice A l.length c] (by rfl) rfl rfl (by (try simp only [List.map_toArray, List.map_cons, List.map_nil]); first | done | rfl) ?_
        with_reducible refine (CRB.out w8 (Kd.C_below HA7.out HD.out)).mono ?_
        rintro e w9 ⟨A9, c9, rfl, hc9, hC9, hb9⟩
        have HB9 := Aside0.mk (below_step HD.out hb9)
        have HC39 := Aside0.mk (Kd.C_below HC37.out HB9.out)
        have hs9 := (Kd.C_string (P := Try.prog) (src := 22) (dst := 9) (A := A9) (c := c9) Try.underlying22 Try.underlying5 Try.underlying9 hC9)
        clear hC9 hb9
        refine ⟨_, rfl, ?_⟩
        refine hK.out _ _ (Kd.C_string (P := Try.prog) (src := 22) (dst := 9) (A := A3) (c := c3) Try.underlying22 Try.underlying5 Try.underlying9 HC39.out) (fun hHeld => ?_)
        clear hK K
        refine norm_ (a' := ?_) ?_ ?_
        rotate_left
        · show Act.put _ (some 132) _ = _
          simp only [Act.put, List.setIfInBounds_toArray, List.set_cons_zero, List.set_cons_succ, i64_w, i32_w]
          rfl
        refine one_ (i := 4) (N := some 133) #[true, true, true, true, true, false, false, false, false, false, false, false, false, false, false, false, false, false, false, false, false, false, false, false, false, false] rfl rfl (by kernel_rfl) (by decide) (fun K hK => ?_)
        refine value_ (v := (.string (strOfNums xb))) (w1 := w9) (by rfl) rfl ?_ ?_
        · go_simp
          first | done | with_reducible rfl
        refine hK.out _ _ (Kd.C_string (P := Try.prog) (src := 22) (dst := 9) (A := A3) (c := c3) Try.underlying22 Try.underlying5 Try.underlying9 HC39.out) (fun hHeld => ?_)
        clear hK K
        refine norm_ (a' := ?_) ?_ ?_
        rotate_left
        · show Act.put _ (some 133) _ = _
          simp only [Act.put, List.setIfInBounds_toArray, List.set_cons_zero, List.set_cons_succ, i64_w, i32_w]
          rfl
        refine pure_ (i := 5) (N := some 134) (v := ?_) (a' := ?_) #[true, true, true, true, true, true, false, false, false, false, false, false, false, false, false, false, false, false, false, false, false, false, false, false, false, false] rfl rfl (by kernel_rfl) (fun _ _ _ h => h) (Or.inl ⟨by rfl, ?_⟩) ?_ ?_
        rotate_left
        · intro w'
          go_simp
          with_reducible rfl
        rotate_left
        · simp only [Act.put, List.setIfInBounds_toArray, List.set_cons_zero, List.set_cons_succ, i64_w, i32_w]
          rfl
        refine pure_ (i := 6) (N := some 135) (v := ?_) (a' := ?_) #[true, true, true, true, true, true, true, false, false, false, false, false, false, false, false, false, false, false, false, false, false, false, false, false, false, false] rfl rfl (by kernel_rfl) (fun _ _ _ h => h) (Or.inl ⟨by rfl, ?_⟩) ?_ ?_
        rotate_left
        · intro w'
          go_simp
          with_reducible rfl
        rotate_left
        · simp only [Act.put, List.setIfInBounds_toArray, List.set_cons_zero, List.set_cons_succ, i64_w, i32_w]
          rfl
        refine pure_ (i := 7) (N := some 136) (v := ?_) (a' := ?_) #[true, true, true, true, true, true, true, true, false, false, false, false, false, false, false, false, false, false, false, false, false, false, false, false, false, false] rfl rfl (by kernel_rfl) (fun _ _ _ h => h) (Or.inl ⟨by rfl, ?_⟩) ?_ ?_
        rotate_left
        · intro w'
          go_simp
          with_reducible rfl
        rotate_left
        · simp only [Act.put, List.setIfInBounds_toArray, List.set_cons_zero, List.set_cons_succ, i64_w, i32_w]
          rfl
        refine pure_ (i := 9) (N := some 138) (v := ?_) (a' := ?_) #[true, true, true, true, true, true, true, true, false, true, false, false, false, false, false, false, false, false, false, false, false, false, false, false, false, false] rfl rfl (by kernel_rfl) (fun _ _ _ h => h) (Or.inl ⟨by rfl, ?_⟩) ?_ ?_
        rotate_left
        · intro w'
          go_simp
          with_reducible rfl
        rotate_left
        · simp only [Act.put, List.setIfInBounds_toArray, List.set_cons_zero, List.set_cons_succ, i64_w, i32_w]
          rfl
        refine one_ (i := 8) (N := some 137) #[true, true, true, true, true, true, true, true, true, true, false, false, false, false, false, false, false, false, false, false, false, false, false, false, false, false] rfl rfl (by kernel_rfl) (by decide) (fun K hK => ?_)
        refine goes_ Try.func13 (by kernel_rfl) rfl #[.int .i64 0] (by rfl) rfl rfl (by (try simp only [List.map_toArray, List.map_cons, List.map_nil]); first | done | rfl) ?_
        with_reducible refine (num_call _ _).mono ?_
        rintro e w10 ⟨rfl, ⟨m8, rfl⟩⟩
        refine ⟨_, rfl, ?_⟩
        refine hK.out _ _ (Kd.C_string (P := Try.prog) (src := 22) (dst := 9) (A := A3) (c := c3) Try.underlying22 Try.underlying5 Try.underlying9 (Kd.C_drewN HC39.out _)) (fun hHeld => ?_)
        clear hK K
        refine norm_ (a' := ?_) ?_ ?_
        rotate_left
        · show Act.put _ (some 137) _ = _
          simp only [Act.put, List.setIfInBounds_toArray, List.set_cons_zero, List.set_cons_succ, i64_w, i32_w]
          rfl
        refine one_ (i := 10) (N := some 139) #[true, true, true, true, true, true, true, true, true, true, true, false, false, false, false, false, false, false, false, false, false, false, false, false, false, false] rfl rfl (by kernel_rfl) (by decide) (fun K hK => ?_)
        refine goes_ Try.func13 (by kernel_rfl) rfl #[.int .i64 0] (by rfl) rfl rfl (by (try simp only [List.map_toArray, List.map_cons, List.map_nil]); first | done | rfl) ?_
        with_reducible refine (num_call _ _).mono ?_
        rintro e w11 ⟨rfl, ⟨m10, rfl⟩⟩
        refine ⟨_, rfl, ?_⟩
        refine hK.out _ _ (Kd.C_string (P := Try.prog) (src := 22) (dst := 9) (A := A3) (c := c3) Try.underlying22 Try.underlying5 Try.underlying9 (Kd.C_drewN (Kd.C_drewN HC39.out _) _)) (fun hHeld => ?_)
        clear hK K
        refine norm_ (a' := ?_) ?_ ?_
        rotate_left
        · show Act.put _ (some 139) _ = _
          simp only [Act.put, List.setIfInBounds_toArray, List.set_cons_zero, List.set_cons_succ, i64_w, i32_w]
          rfl
        refine pure_ (i := 11) (N := some 140) (v := ?_) (a' := ?_) #[true, true, true, true, true, true, true, true, true, true, true, true, false, false, false, false, false, false, false, false, false, false, false, false, false, false] rfl rfl (by kernel_rfl) (fun _ _ _ h => h) (Or.inl ⟨by rfl, ?_⟩) ?_ ?_
        rotate_left
        · intro w'
          go_simp
          with_reducible rfl
        rotate_left
        · simp only [Act.put, List.setIfInBounds_toArray, List.set_cons_zero, List.set_cons_succ, i64_w, i32_w]
          rfl
        refine pure_ (i := 12) (N := some 141) (v := ?_) (a' := ?_) #[true, true, true, true, true, true, true, true, true, true, true, true, true, false, false, false, false, false, false, false, false, false, false, false, false, false] rfl rfl (by kernel_rfl) (fun _ _ _ h => h) (Or.inl ⟨by rfl, ?_⟩) ?_ ?_
        rotate_left
        · intro w'
          go_simp
          with_reducible rfl
        rotate_left
        · simp only [Act.put, List.setIfInBounds_toArray, List.set_cons_zero, List.set_cons_succ, i64_w, i32_w]
          rfl
        refine pure_ (i := 13) (N := some 142) (v := ?_) (a' := ?_) #[true, true, true, true, true, true, true, true, true, true, true, true, true, true, false, false, false, false, false, false, false, false, false, false, false, false] rfl rfl (by kernel_rfl) (fun _ _ _ h => h) (Or.inl ⟨by rfl, ?_⟩) ?_ ?_
        rotate_left
        · intro w'
          go_simp
          with_reducible rfl
        rotate_left
        · simp only [Act.put, List.setIfInBounds_toArray, List.set_cons_zero, List.set_cons_succ, i64_w, i32_w]
          rfl
        refine pure_ (i := 14) (N := some 143) (v := ?_) (a' := ?_) #[true, true, true, true, true, true, true, true, true, true, true, true, true, true, true, false, false, false, false, false, false, false, false, false, false, false] rfl rfl (by kernel_rfl) (fun _ _ _ h => h) (Or.inl ⟨by rfl, ?_⟩) ?_ ?_
        rotate_left
        · intro w'
          go_simp
          with_reducible rfl
        rotate_left
        · simp only [Act.put, List.setIfInBounds_toArray, List.set_cons_zero, List.set_cons_succ, i64_w, i32_w]
          rfl
        refine pure_ (i := 15) (N := some 144) (v := ?_) (a' := ?_) #[true, true, true, true, true, true, true, true, true, true, true, true, true, true, true, true, false, false, false, false, false, false, false, false, false, false] rfl rfl (by kernel_rfl) (fun _ _ _ h => h) (Or.inl ⟨by rfl, ?_⟩) ?_ ?_
        rotate_left
        · intro w'
          go_simp
          with_reducible rfl
        rotate_left
        · simp only [Act.put, List.setIfInBounds_toArray, List.set_cons_zero, List.set_cons_succ, i64_w, i32_w]
          rfl
        refine pure_ (i := 16) (N := some 145) (v := ?_) (a' := ?_) #[true, true, true, true, true, true, true, true, true, true, true, true, true, true, true, true, true, false, false, false, false, false, false, false, false, false] rfl rfl (by kernel_rfl) (fun _ _ _ h => h) (Or.inl ⟨by rfl, ?_⟩) ?_ ?_
        rotate_left
        · intro w'
          go_simp
          with_reducible rfl
        rotate_left
        · simp only [Act.put, List.setIfInBounds_toArray, List.set_cons_zero, List.set_cons_succ, i64_w, i32_w]
          rfl
        refine pure_ (i := 17) (N := some 146) (v := ?_) (a' := ?_) #[true, true, true, true, true, true, true, true, true, true, true, true, true, true, true, true, true, true, false, false, false, false, false, false, false, false] rfl rfl (by kernel_rfl) (fun _ _ _ h => h) (Or.inl ⟨by rfl, ?_⟩) ?_ ?_
        rotate_left
        · intro w'
          go_simp
          with_reducible rfl
        rotate_left
        · simp only [Act.put, List.setIfInBounds_toArray, List.set_cons_zero, List.set_cons_succ, i64_w, i32_w]
          rfl
        refine pure_ (i := 18) (N := some 147) (v := ?_) (a' := ?_) #[true, true, true, true, true, true, true, true, true, true, true, true, true, true, true, true, true, true, true, false, false, false, false, false, false, false] rfl rfl (by kernel_rfl) (fun _ _ _ h => h) (Or.inl ⟨by rfl, ?_⟩) ?_ ?_
        rotate_left
        · intro w'
          go_simp
          with_reducible rfl
        rotate_left
        · simp only [Act.put, List.setIfInBounds_toArray, List.set_cons_zero, List.set_cons_succ, i64_w, i32_w]
          rfl
        refine pure_ (i := 19) (N := some 148) (v := ?_) (a' := ?_) #[true, true, true, true, true, true, true, true, true, true, true, true, true, true, true, true, true, true, true, true, false, false, false, false, false, false] rfl rfl (by kernel_rfl) (fun _ _ _ h => h) (Or.inl ⟨by rfl, ?_⟩) ?_ ?_
        rotate_left
        · intro w'
          go_simp
          with_reducible rfl
        rotate_left
        · simp only [Act.put, List.setIfInBounds_toArray, List.set_cons_zero, List.set_cons_succ, i64_w, i32_w]
          rfl
        refine pure_ (i := 20) (N := some 149) (v := ?_) (a' := ?_) #[true, true, true, true, true, true, true, true, true, true, true, true, true, true, true, true, true, true, true, true, true, false, false, false, false, false] rfl rfl (by kernel_rfl) (fun _ _ _ h => h) (Or.inl ⟨by rfl, ?_⟩) ?_ ?_
        rotate_left
        · intro w'
          go_simp
          with_reducible rfl
        rotate_left
        · simp only [Act.put, List.setIfInBounds_toArray, List.set_cons_zero, List.set_cons_succ, i64_w, i32_w]
          rfl
        refine pure_ (i := 21) (N := some 150) (v := ?_) (a' := ?_) #[true, true, true, true, true, true, true, true, true, true, true, true, true, true, true, true, true, true, true, true, true, true, false, false, false, false] rfl rfl (by kernel_rfl) (fun _ _ _ h => h) (Or.inl ⟨by rfl, ?_⟩) ?_ ?_
        rotate_left
        · intro w'
          go_simp
          with_reducible rfl
        rotate_left
        · simp only [Act.put, List.setIfInBounds_toArray, List.set_cons_zero, List.set_cons_succ, i64_w, i32_w]
          rfl
        refine pure_ (i := 22) (N := some 151) (v := ?_) (a' := ?_) #[true, true, true, true, true, true, true, true, true, true, true, true, true, true, true, true, true, true, true, true, true, true, true, false, false, false] rfl rfl (by kernel_rfl) (fun _ _ _ h => h) (Or.inl ⟨by rfl, ?_⟩) ?_ ?_
        rotate_left
        · intro w'
          go_simp
          with_reducible rfl
        rotate_left
        · simp only [Act.put, List.setIfInBounds_toArray, List.set_cons_zero, List.set_cons_succ, i64_w, i32_w]
          rfl
        refine pure_ (i := 23) (N := some 152) (v := ?_) (a' := ?_) #[true, true, true, true, true, true, true, true, true, true, true, true, true, true, true, true, true, true, true, true, true, true, true, true, false, false] rfl rfl (by kernel_rfl) (fun _ _ _ h => h) (Or.inl ⟨by rfl, ?_⟩) ?_ ?_
        rotate_left
        · intro w'
          go_simp
          with_reducible rfl
        rotate_left
        · simp only [Act.put, List.setIfInBounds_toArray, List.set_cons_zero, List.set_cons_succ, i64_w, i32_w]
          rfl
        refine pure_ (i := 24) (N := some 153) (v := ?_) (a' := ?_) #[true, true, true, true, true, true, true, true, true, true, true, true, true, true, true, true, true, true, true, true, true, true, true, true, true, false] rfl rfl (by kernel_rfl) (fun _ _ _ h => h) (Or.inl ⟨by rfl, ?_⟩) ?_ ?_
        rotate_left
        · intro w'
          go_simp
          with_reducible rfl
        rotate_left
        · simp only [Act.put, List.setIfInBounds_toArray, List.set_cons_zero, List.set_cons_succ, i64_w, i32_w]
          rfl
        refine pure_ (i := 25) (N := some 154) (v := ?_) (a' := ?_) #[true, true, true, true, true, true, true, true, true, true, true, true, true, true, true, true, true, true, true, true, true, true, true, true, true, true] rfl rfl (by kernel_rfl) (fun _ _ _ h => h) (Or.inl ⟨by rfl, ?_⟩) ?_ ?_
        rotate_left
        · intro w'
          go_simp
          with_reducible rfl
        rotate_left
        · simp only [Act.put, List.setIfInBounds_toArray, List.set_cons_zero, List.set_cons_succ, i64_w, i32_w]
          rfl
        refine done_ (by kernel_rfl) ?_
        go_wp2
        have HE := Aside0.mk (show Below w.heap.size w w9 from below_step (below_step HBr.out HR7.out) HB9.out)
        have HC49 := Aside0.mk (Kd.C_below HC47.out HB9.out)
        have HC79 := Aside0.mk (Kd.C_below HC7.out HB9.out)
        clear hz0 hz1 hz2 hz3 hlne hleq hlne2 hleq2 hs1 hs9
        go_loopw [15] (fun i w' => ∃ j : Nat, i = .int .i64 j ∧ j ≤ xw.length ∧ Aside0 (∃ nd, w' = w9.drewN nd)) (fun i _ => xw.length - (intOf i).toNat)
        case atStart => exact ⟨0, rfl, Nat.zero_le _, ⟨⟨m8 + m10, by first | rfl | simp [World.drewN, Nat.add_assoc]⟩⟩⟩
        case round =>
          obtain ⟨j, rfl, hj, hdr⟩ := hrel
          obtain ⟨nd, hdd⟩ := hdr.out
          clear hdr
          by_cases hjl : j < xw.length
          · obtain ⟨ad6, e6, hx6⟩ := Kd.at_int HC49.out (j : Int) (by omega) (by omega)
            subst e6
            obtain ⟨ad7, e7, hx7⟩ := Kd.at_int HC79.out (j : Int) (by omega) (by omega)
            subst e7
            simp only [Int.toNat_natCast] at hx6 hx7
            have j0 : (0 : Int) ≤ (j : Int) := by omega
            have j1 : (j : Int) < (xw.length : Int) := by omega
            obtain ⟨p, hp⟩ : ∃ p, p = rd xw (j : Int) := ⟨_, rfl⟩
            rw [← hp] at hx6 hx7
            have g2 : (p != p) = false := by simp
            have g3 : (p == p) = true := by simp
            replace hx6 : w9.cell? (ad6.add j) = some (.int .u64 p) := hx6
            replace hx7 : w9.cell? (ad7.add j) = some (.int .u64 p) := hx7
            clear hp
            subst hdd
            go_wp2
            repeat (go_quiet (fail); try go_wp2)
            exact ⟨⟨j + 1, by simp, by omega, ⟨⟨_, rfl⟩⟩⟩, by simp [intOf]; omega⟩
          · obtain rfl : j = xw.length := by omega
            have HEE := Aside0.mk (show Below w.heap.size w wr from by rw [hdd]; exact pw_below_drewN HE.out _)
            clear hdd
            go_wp2_with (first | (go_at_call 10; refine (known_call _).mono ?_; rintro e w12 ⟨rfl, hb12⟩; have HB12 := Aside0.mk hb12; clear hb12))
            go_ret
            exact ⟨rfl, below_step HEE.out HB12.out⟩
theorem RowWrites_calls (A B : Option Addr) (c d : Nat) (l : List (List Int)) (kk : List Int) (w : World) (hA : Kd.C (Kd.slice 5 (Kd.int .u8)) w A l.length l) (hc : l.length ≤ c) (hB : Kd.C (Kd.int .u8) w B kk.length kk) (hd : kk.length ≤ d) (hY : Byts l) (hl : l.length < 1000000000000000) :
    Calls Try.prog 6 #[.slice A l.length c, .slice B kk.length d] w (RightPost w) := by
  obtain ⟨n, hn, hn9⟩ := size_eq l hl (l.length + 1) (by omega)
  by_cases h : 9000 < n ∨ 9000 < kk.length
  · exact writes_big A B c d l kk w hA hc hB hd n hn h
  · exact writes_walk A B c d l kk w hA hc hB hd hY n hn (by omega) (by rw [← hn9 (by omega)]; omega) (by omega)
end Go.Proofs.Ytmpbcmnnlkienaa.Of
