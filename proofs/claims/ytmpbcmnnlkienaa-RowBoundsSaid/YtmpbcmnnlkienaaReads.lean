/- The law RowReads' call. -/
import Derived.Test.YtmpbcmnnlkienaaRo
namespace Go.Proofs.Ytmpbcmnnlkienaa.Of
open Go.RowKit Go.Proofs.YtmpbcmnnlkienaaW.PrintWords Go.Proofs.YtmpbcmnnlkienaaW.PrintLast Go.Proofs.YtmpbcmnnlkienaaW.PrintMore Go.Proofs.Ytmpbcmnnlkienaa.HS Go.Proofs.Ytmpbcmnnlkienaa.Pure
set_option linter.unusedVariables false
set_option linter.unusedSimpArgs false
/-- A byte of a row of rows of one's own is written. -/
theorem rows_poke {W : World} {base n cap : Nat} {ad : Addr} {xs : List (List Int)} (h : Rd.Rows W base (.slice (some ad) n cap) xs) (i : Nat) (hi : i < xs.length) (j : Nat) (hj : j < (xs[i]).length) :
    ∃ (g c2 : Nat), W.cell? (ad.add i) = some (.slice (some ⟨g, 0, none⟩) (xs[i]).length c2) ∧ (xs[i]).length ≤ c2 ∧ W.cell? ⟨g, j, none⟩ = some (.int .u8 (rd xs[i] (j : Int))) ∧ W.frozen? ⟨g, j, none⟩ = false ∧ base ≤ g ∧
      ∀ x : Int, Rd.Rows (W.setCell ⟨g, j, none⟩ (.int .u8 x)) base (.slice (some ad) n cap) (xs.set i ((xs[i]).set j x)) ∧ Below base W (W.setCell ⟨g, j, none⟩ (.int .u8 x)) := by
  have hn := (Kd.S_reads' h).1
  obtain ⟨oki, c, hcl, hM, hcc, hoki, hput⟩ := Kd.S_borrow h ([] : List Int) (i : Int) (by omega) (by omega)
  have hge : xs.getD (i : Int).toNat [] = xs[i] := by simp [List.getD, hi]
  rw [hge] at hM
  obtain ⟨v, hc, hR⟩ := hM
  subst hc
  obtain ⟨g, cap2, hv, hb, hlt, cells, hcells⟩ := Kd.R_form hR (by omega)
  subst hv
  have h0 := hcc 0 _ rfl
  rw [Int.toNat_natCast, show i * (Kd.slice 5 (Kd.int .u8)).sz + 0 = i from by show i * 1 + 0 = i; omega] at h0
  obtain ⟨f0, f1⟩ := Kd.R_cell (0 : Int) hR (j : Int) (by omega) (by omega)
  simp only [Int.toNat_natCast] at f0 f1
  refine ⟨g, cap2, h0, (Kd.R_reads' hR).2.1, f0, f1, hb, fun x => ?_⟩
  have hp := Kd.R_putg (n := (xs[i]).length) hR (j : Int) x
  rw [Int.toNat_natCast] at hp
  have hS := hput hp.2 (fun k hk => by have := hR.1 g (by simp [Value.ownBlock]); cases hk; exact this) (x' := (xs[i]).set j x) ⟨_, rfl, hp.1⟩
  rw [Int.toNat_natCast] at hS
  exact ⟨hS, hp.2.os, hp.2.tape, hp.2.output, hp.2.size, fun k hk => Below.heap_setCell W _ _ k (fun e => by have h1 : k = g := e; omega)⟩
def lens (xs : List (List Int)) : List Nat := xs.map List.length
theorem lens_set {xs : List (List Int)} (i : Nat) (hi : i < xs.length) (y : List Int) (hy : y.length = (xs[i]).length) : lens (xs.set i y) = lens xs := by
  unfold lens
  rw [List.map_set, hy]
  apply List.ext_getElem?
  intro k
  rw [List.getElem?_set]
  by_cases hk : i = k
  · subst hk
    rw [if_pos rfl, List.length_map, if_pos hi]
    simp [hi]
  · rw [if_neg hk]
theorem lens_len {xs ys : List (List Int)} (h : lens xs = lens ys) : xs.length = ys.length := by
  have := congrArg List.length h
  simpa [lens] using this
theorem lens_at {xs ys : List (List Int)} (h : lens xs = lens ys) (i : Nat) (h1 : i < xs.length) (h2 : i < ys.length) : (xs[i]).length = (ys[i]).length := by
  have := congrArg (fun l => l[i]?) h
  simpa [lens, h1, h2] using this
theorem ofB_spec {l : List Int} {r : List (List Int)} (h : ofB l = some r) : mayB r = true ∧ Byts r ∧ wordsB (rowB r) = l := by
  unfold ofB at h
  split at h
  · cases hr : readB (unp l (rd l 0).toNat) with
    | none => rw [hr] at h; cases h
    | some q =>
      rw [hr] at h
      dsimp only at h
      split at h
      · rename_i hw
        obtain rfl := Option.some.inj h
        have := readB_spec (unp_byt _ _) hr
        exact ⟨this.1, this.2.1, hw⟩
      · cases h
  · cases h
theorem byts_nil : Byts [] := fun f hf => by cases hf
theorem byts_read {b : List Int} (hb : Rd.Byt b) : Byts ((readB b).getD []) := by
  cases h : readB b with
  | none => exact byts_nil
  | some r => exact (readB_spec hb h).2.1
theorem byts_of (l : List Int) : Byts ((ofB l).getD []) := by
  cases h : ofB l with
  | none => exact byts_nil
  | some r => exact (ofB_spec h).2.1

def RightPost (w : World) (e : Ending) (w' : World) : Prop := e = .returned (.bool true) ∧ Below w.heap.size w w'
theorem known_call (w : World) : Calls Try.prog 10 #[] w (RightPost w) := garnerlaw13_known.calls 30 true w (known_ge 30 (by omega))
theorem num_call (n : Int) (w : World) : Calls Try.prog 13 #[.int .i64 n] w fun e w' => e = .returned (.int .i64 n) ∧ Drawn0 w w' := garnerlaw13_num.calls n n w rfl
theorem same_call {A B : Option Addr} {c d : Nat} {a b : List (List Int)} {w : World} (hA : Kd.C (Kd.slice 5 (Kd.int .u8)) w A a.length a) (hc : a.length ≤ c) (hB : Kd.C (Kd.slice 5 (Kd.int .u8)) w B b.length b) (hd : b.length ≤ d) (ha : Byts a) (hb : Byts b) (hl : a.length < 1000000000000000) (r : Bool) (hr : r = decide (a = b)) :
    Calls Try.prog 24 #[.slice A a.length c, .slice B b.length d] w fun e w' => e = .returned (.bool r) ∧ Drawn0 w w' := by
  subst hr
  exact garnerref13_Same.calls (a.length + 1) A c a B d b _ w hA hc hB hd (refSame_eq ha hb hl _ (by omega))
set_option maxHeartbeats 8000000 in
set_option maxRecDepth 100000 in
theorem reads_big (A B : Option Addr) (c d : Nat) (b l : List Int) (w : World) (hA : Kd.C (Kd.int .u8) w A b.length b) (hc : b.length ≤ c) (hB : Kd.C (Kd.int .u64) w B l.length l) (hd : l.length ≤ d) (hbig : 9000 < b.length ∨ 2000 < l.length) :
    Calls Try.prog 7 #[.slice A b.length c, .slice B l.length d] w (RightPost w) := by
  have hb := hA.2.1
  have hl := hB.2.1
  clear hA hB
  by_cases h1 : 9000 < b.length
  · clear hbig
    go_enter Try.func7, Try.ntmps7
    go_wp2_with (first | (go_at_call 10; refine (known_call _).mono ?_; rintro e w1 ⟨rfl, hb1⟩; have HB1 := Aside0.mk hb1; clear hb1))
    go_ret
    exact ⟨rfl, HB1.out⟩
  · have h2 : 2000 < l.length := by omega
    clear hbig
    go_enter Try.func7, Try.ntmps7
    go_wp2_with (first | (go_at_call 10; refine (known_call _).mono ?_; rintro e w1 ⟨rfl, hb1⟩; have HB1 := Aside0.mk hb1; clear hb1))
    go_ret
    exact ⟨rfl, HB1.out⟩
def errOf (R : Option (List (List Int))) : Int := match R with | some _ => 0 | none => 4
def RowsOut (rr : List (List Int)) (en : Int) (w : World) (e : Ending) (w' : World) : Prop := ∃ (A : Option Addr) (c : Nat), e = .returned (.tuple #[.slice A rr.length c, .int .i64 en]) ∧ rr.length ≤ c ∧ Kd.C (Kd.slice 5 (Kd.int .u8)) w' A rr.length rr ∧ Rd.Rows w' w.heap.size (.slice A rr.length c) rr ∧ Below w.heap.size w w'
theorem rows_out {R : Option (List (List Int))} {rr : List (List Int)} {en : Int} (hr : rr = R.getD []) (he : en = errOf R) {w w' : World} {e : Ending} (h : ReadPost R w e w') : RowsOut rr en w e w' := by
  subst hr he
  obtain ⟨v, rfl, ho, hb⟩ := h
  obtain ⟨A, c, rfl, h1, h2⟩ := Kd.S_reads ho
  exact ⟨A, c, rfl, h1, h2, ho, hb⟩
theorem cut_own {W : World} {A : Option Addr} {b : List Int} (h : Kd.C (Kd.int .u8) W A ([] ++ b ++ [119] : List Int).length ([] ++ b ++ [119])) : Kd.C (Kd.int .u8) W A b.length b := by
  have h2 := Kd.C_take (m := b.length) h (by simp)
  rw [show ([] ++ b ++ [119] : List Int).take b.length = b from by simp] at h2
  exact h2
set_option maxHeartbeats 8000000 in
set_option maxRecDepth 100000 in
theorem reads_walk (A B : Option Addr) (c d : Nat) (b l : List Int) (w : World) (hA : Kd.C (Kd.int .u8) w A b.length b) (hc : b.length ≤ c) (hB : Kd.C (Kd.int .u64) w B l.length l) (hd : l.length ≤ d) (hb9 : b.length ≤ 9000) (hl2 : l.length ≤ 2000) (hbb : Rd.Byt b) (hU : U64s l) :
    Calls Try.prog 7 #[.slice A b.length c, .slice B l.length d] w (RightPost w) := by
  have HA := Aside0.mk hA
  have HB := Aside0.mk hB
  have HY := Aside0.mk hbb
  have HU := Aside0.mk hU
  obtain ⟨rr, hrr⟩ : ∃ r, r = (readB b).getD [] := ⟨_, rfl⟩
  obtain ⟨ro, hro⟩ : ∃ r, r = (ofB l).getD [] := ⟨_, rfl⟩
  obtain ⟨e1, he1⟩ : ∃ e : Int, e = errOf (readB b) := ⟨_, rfl⟩
  obtain ⟨e2, he2⟩ : ∃ e : Int, e = errOf (ofB l) := ⟨_, rfl⟩
  have hY1 : Byts rr := by rw [hrr]; exact byts_read hbb
  have hY2 : Byts ro := by rw [hro]; exact byts_of l
  have hL1 : rr.length ≤ 3 := by
    rw [hrr]
    cases h : readB b with
    | none => simp
    | some r => exact ((may_iff r).1 (readB_spec hbb h).1).2.1
  have hL2 : ro.length ≤ 3 := by
    rw [hro]
    cases h : ofB l with
    | none => simp
    | some r => exact ((may_iff r).1 (ofB_spec h).1).2.1
  have hM1 : ∀ f ∈ rr, f.length ≤ 24 := by
    rw [hrr]
    cases h : readB b with
    | none => intro f hf; cases hf
    | some r => exact ((may_iff r).1 (readB_spec hbb h).1).2.2
  have HM := Aside0.mk hM1
  clear hM1
  have HY1 := Aside0.mk hY1
  have HY2 := Aside0.mk hY2
  have C1 := Aside0.mk (fun (A : Option Addr) (c : Nat) (W : World) (hC : Kd.C (Kd.int .u8) W A b.length b) (hc : b.length ≤ c) => (read.walk A c b W hC hc hbb (by omega)).mono fun e w' h => rows_out hrr he1 h)
  have C2 := Aside0.mk (fun (A : Option Addr) (c : Nat) (W : World) (hC : Kd.C (Kd.int .u8) W A b.length b) (hc : b.length ≤ c) => (refRead A c b W hC hc hbb (by omega)).mono fun e w' h => rows_out hrr he1 h)
  have C3 := Aside0.mk (fun (A : Option Addr) (c : Nat) (W : World) (hC : Kd.C (Kd.int .u64) W A l.length l) (hc : l.length ≤ c) => (of_walk A c l W hC hc hU).mono fun e w' h => rows_out hro he2 h)
  have C4 := Aside0.mk (fun (A : Option Addr) (c : Nat) (W : World) (hC : Kd.C (Kd.int .u64) W A l.length l) (hc : l.length ≤ c) => (refOf_walk A c l W hC hc hU).mono fun e w' h => rows_out hro he2 h)
  obtain ⟨i5, hi5, hs5⟩ : ∃ ie, Try.prog.info? 5 = some ie ∧ ie.size = 1 := by
    have h : (Try.prog.info? 5).map (fun i => i.size) = some 1 := by kernel_rfl
    obtain ⟨ie, h1, h2⟩ := Option.map_eq_some_iff.mp h
    exact ⟨ie, h1, h2⟩
  clear hA hB hbb hU hY1 hY2 hrr hro he1 he2
  go_enter Try.func7, Try.ntmps7
  go_upto_region 4 with (first | ((with_reducible refine gate_builtin (b := .append) (xs := #[.const (.slice none 0 0), .tmp 25]) rfl ?_); at_builtin; refine Rd.append_list w.heap.size rfl (.const (.slice none 0 0)) (.tmp 25) rfl (.slice none 0 0) [] b A b.length c rfl rfl (Rd.Own.nil _ _) HA.out (Nat.le_refl _) (by simp only [List.length_nil]; omega) ?_; intro v1 w1 ho1 hb1 hg1 hat; have HO1 := Aside0.mk ho1; have HB1 := Aside0.mk hb1; clear ho1 hb1 hg1 hat) | ((with_reducible refine gate_builtin (b := .append) (xs := #[.tmp 26, .tmp 27]) rfl ?_); at_builtin; refine Rd.append_list w.heap.size rfl (.tmp 26) (.tmp 27) rfl v1 ([] ++ b) [119] (some ⟨w1.heap.size, 0, none⟩) 1 1 rfl rfl (HO1.out.below (below_alloc (Below.refl _ _) _)) (Rd.C_lit w1 .u8 5 [119] (by simp)) (by have := HB1.out.size; simp; omega) (by simp only [List.nil_append]; omega) ?_; intro v2 w2 ho2 hb2 hg2 hat2; have HB2 := Aside0.mk ((HB1.out.trans ((below_alloc (Below.refl w1.heap.size w1) (.cells #[.int .u8 119] 5)).mono HB1.out.size)).trans hb2); have HO2 := Aside0.mk ho2; clear ho2 hb2 hg2 hat2))
  obtain ⟨A2, c2, q2, hc2, hC2, hlo2⟩ := Rd.Own.reads HO2.out
  have hn2 : ([] ++ b ++ [119] : List Int).length = b.length + 1 := by simp
  have HC2 := Aside0.mk hC2
  rw [hn2] at q2 hc2
  subst q2
  have hcut := cut_to (P := Try.prog) 22 5 .i64 Try.underlying22 hi5 A2 (b.length + 1) c2 (b.length : Int) (by omega) (by omega) hc2
  simp only [Int.toNat_natCast] at hcut
  have hc22 : b.length ≤ c2 := by omega
  clear hC2 hlo2 hn2
  go_wp2_with (first | (go_at_call 31; refine (C1.out A2 c2 w2 (cut_own HC2.out) hc22).mono ?_; rintro e w3 ⟨A3, c3, rfl, hc3, hC3, hr3, hb3⟩; have HR3 := Aside0.mk hr3; have HB3 := Aside0.mk (below_step HB2.out hb3); have HB23 := Aside0.mk hb3; clear hC3 hr3 hb3) | (go_at_call 32; refine (C2.out A c w3 (Kd.C_below HA.out HB3.out) hc).mono ?_; rintro e w4 ⟨A4, c4, rfl, hc4, hC4, hr4, hb4⟩; have HR4 := Aside0.mk hr4; have HR34 := Aside0.mk (Rd.Rows.below HR3.out hb4); have HB4 := Aside0.mk (below_step HB3.out hb4); have HB24 := Aside0.mk (below_step HB23.out hb4); clear hC4 hr4 hb4) | (go_at_call 33; refine (C3.out B d w4 (Kd.C_below HB.out HB4.out) hd).mono ?_; rintro e w5 ⟨A5, c5, rfl, hc5, hC5, hr5, hb5⟩; have HR5 := Aside0.mk hr5; have HR35 := Aside0.mk (Rd.Rows.below HR34.out hb5); have HR45 := Aside0.mk (Rd.Rows.below HR4.out hb5); have HB5 := Aside0.mk (below_step HB4.out hb5); have HB25 := Aside0.mk (below_step HB24.out hb5); clear hC5 hr5 hb5) | (go_at_call 34; refine (C4.out B d w5 (Kd.C_below HB.out HB5.out) hd).mono ?_; rintro e w6 ⟨A6, c6, rfl, hc6, hC6, hr6, hb6⟩; have HC6 := Aside0.mk hC6; have HR36 := Aside0.mk (Rd.Rows.below HR35.out hb6); have HR46 := Aside0.mk (Rd.Rows.below HR45.out hb6); have HR56 := Aside0.mk (Rd.Rows.below HR5.out hb6); have HC36 := Aside0.mk (Kd.S_reads' HR36.out).2.2; have HC46 := Aside0.mk (Kd.S_reads' HR46.out).2.2; have HC56 := Aside0.mk (Kd.S_reads' HR56.out).2.2; have HB6 := Aside0.mk (below_step HB5.out hb6); have HB26 := Aside0.mk (below_step HB25.out hb6); clear hC6 hr6 hb6) | ((with_reducible refine (same_call (A := A3) (B := A4) (a := rr) (b := rr) (w := w6) HC36.out hc3 HC46.out hc4 HY1.out HY1.out (by omega) true (by simp)).mono ?_); rintro e w7 ⟨rfl, ⟨nd7, rfl⟩⟩) | (go_at_call 13; refine (num_call _ _).mono ?_; rintro e w8 ⟨rfl, ⟨nd8, rfl⟩⟩) | ((with_reducible refine (same_call (A := A5) (B := A6) (a := ro) (b := ro) (by first | exact Kd.C_drewN HC56.out _ | exact Kd.C_drewN (Kd.C_drewN HC56.out _) _) hc5 (by first | exact Kd.C_drewN HC6.out _ | exact Kd.C_drewN (Kd.C_drewN HC6.out _) _) hc6 HY2.out HY2.out (by omega) true (by simp)).mono ?_); rintro e w9 ⟨rfl, ⟨nd9, rfl⟩⟩))
  go_loopw [14] (fun i w' => ∃ (k : Nat) (xs : List (List Int)), i = .int .i64 k ∧ k ≤ rr.length ∧ Aside0 (lens xs = lens rr) ∧ Aside0 (Rd.Rows w' w2.heap.size (.slice A3 rr.length c3) xs) ∧ Aside0 (Below w2.heap.size w2 w')) (fun i _ => rr.length - (intOf i).toNat)
  case atStart => exact ⟨0, rr, rfl, Nat.zero_le _, ⟨rfl⟩, ⟨by repeat (first | exact HR36.out | apply Kd.S_drewN)⟩, ⟨by repeat (first | exact HB26.out | apply pw_below_drewN)⟩⟩
  case round =>
    obtain ⟨k, xs, rfl, hk, hle, hro, hbe⟩ := hrel
    by_cases hlt : k < rr.length
    · have hlx := lens_len hle.out
      have hkx : k < xs.length := by omega
      obtain ⟨ad, B0, c0, e0, hx0, hc0, hD0⟩ := Rd.C_row_get (Kd.S_reads' hro.out).2.2 k hkx
      subst e0
      have HLX := Aside0.mk hlx
      have hk0 : (0 : Int) ≤ (k : Int) := by omega
      have hk1 : (k : Int) < (rr.length : Int) := by omega
      have hlen3 := lens_at hle.out k hkx hlt
      obtain ⟨q, hq⟩ : ∃ q, q = (rr[k]).length := ⟨_, rfl⟩
      have HQ := Aside0.mk hq
      have hqm : q ≤ 24 := by rw [hq]; exact HM.out _ (List.getElem_mem hlt)
      clear hlx hlen3 hx0 hc0 hD0 hq
      go_wp2
      obtain ⟨wo, hwo⟩ : ∃ wo : World, wo = wr := ⟨_, rfl⟩
      subst hwo
      go_loopw [15] (fun i w' => ∃ (j : Nat) (ys : List (List Int)), i = .int .i64 j ∧ j ≤ q ∧ Aside0 (lens ys = lens rr) ∧ Aside0 (Rd.Rows w' w2.heap.size (.slice (some ad) rr.length c3) ys) ∧ Aside0 (Below w2.heap.size w2 w')) (fun i _ => q - (intOf i).toNat)
      case atStart => exact ⟨0, xs, rfl, Nat.zero_le _, hle, hro, hbe⟩
      case round =>
        obtain ⟨j, ys, rfl, hj, hle2, hro2, hbe2⟩ := hrel
        have hly := lens_len hle2.out
        have hky : k < ys.length := by omega
        have hlen4 := lens_at hle2.out k hky hlt
        by_cases hjq : j < q
        · have hjy : j < (ys[k]).length := by rw [hlen4, ← HQ.out]; exact hjq
          obtain ⟨g, c7, f1, f2, f3, f4, f5, f6⟩ := rows_poke hro2.out k hky j hjy
          have F6 := Aside0.mk (f6 102)
          have hset := lens_set k hky ((ys[k]).set j 102) (by rw [List.length_set])
          have HSET := Aside0.mk (hset.trans hle2.out)
          have hys : (ys[k]).length = q := by rw [hlen4, ← HQ.out]
          rw [hys] at f1 f2
          have j0 : (0 : Int) ≤ (j : Int) := by omega
          have j1 : (j : Int) < (q : Int) := by omega
          clear f5 f6 hset hys hlen4 hly
          go_wp2
          exact ⟨⟨j + 1, _, by simp, by omega, HSET, ⟨F6.out.1⟩, ⟨hbe2.out.trans F6.out.2⟩⟩, by simp [intOf]; omega⟩
        · obtain rfl : j = q := by omega
          obtain ⟨ad2, B1, c1, e1_, hx1, hc1, hD1⟩ := Rd.C_row_get (Kd.S_reads' hro2.out).2.2 k hky
          cases e1_
          rw [show (ys[k]).length = j from by rw [hlen4, ← HQ.out]] at hx1
          clear hc1 hD1 hlen4 hly
          go_wp2
          exact ⟨⟨k + 1, ys, by simp, by omega, hle2, hro2, hbe2⟩, by simp [intOf]; omega⟩
    · obtain rfl : k = rr.length := by omega
      have hs1 := Kd.C_string (P := Try.prog) (src := 22) (dst := 9) (A := A2) (c := c2) Try.underlying22 Try.underlying5 Try.underlying9 (Kd.C_below HC2.out hbe.out)
      have hn2 : ([] ++ b ++ [119] : List Int).length = b.length + 1 := by simp
      rw [hn2] at hs1
      have hs2 := Kd.C_string (P := Try.prog) (src := 22) (dst := 9) (A := A) (c := c) Try.underlying22 Try.underlying5 Try.underlying9 (Kd.C_below (Kd.C_below HA.out HB2.out) hbe.out)
      have hb2e := Aside0.mk (HB2.out.trans (hbe.out.mono HB2.out.size))
      have hsz : (strOfNums b).size ≤ 9000 := by rw [strOfNums_size]; exact hb9
      have hstr : (strOfNums (b ++ [119])).toList = (strOfNums b ++ (⟨#[119]⟩ : ByteArray)).toList := by
        rw [ByteArray.toList_eq, ByteArray.toList_eq, ByteArray.data_append]
        simp [strOfNums]
      clear hn2
      go_wp2_with (first | (go_at_call 10; refine (known_call _).mono ?_; rintro e w10 ⟨rfl, hb10⟩; have HB10 := Aside0.mk hb10; clear hb10))
      go_ret
      exact ⟨rfl, below_step hb2e.out HB10.out⟩
theorem RowReads_calls (A B : Option Addr) (c d : Nat) (b l : List Int) (w : World) (hA : Kd.C (Kd.int .u8) w A b.length b) (hc : b.length ≤ c) (hB : Kd.C (Kd.int .u64) w B l.length l) (hd : l.length ≤ d) (hbb : Rd.Byt b) (hU : U64s l) :
    Calls Try.prog 7 #[.slice A b.length c, .slice B l.length d] w (RightPost w) := by
  by_cases h : 9000 < b.length ∨ 2000 < l.length
  · exact reads_big A B c d b l w hA hc hB hd h
  · exact reads_walk A B c d b l w hA hc hB hd (by omega) (by omega) hbb hU
theorem u64s_wf {l : List Int} (h : ∀ x ∈ l, (Go.Lit.int .u64 x).wf = true) : U64s l := fun x hx => U64.u64_of_wf (h x hx)
end Go.Proofs.Ytmpbcmnnlkienaa.Of
