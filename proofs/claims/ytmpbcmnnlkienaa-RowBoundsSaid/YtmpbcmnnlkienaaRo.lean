/- The reference's Of: what it answers, as a plain function of words. -/
import Derived.Test.YtmpbcmnnlkienaaOf
import Derived.Test.YtmpbcmnnlkienaaPlainC
namespace Go.Proofs.Ytmpbcmnnlkienaa.Of
open Go.RowKit Go.Proofs.YtmpbcmnnlkienaaW.PrintWords Go.Proofs.YtmpbcmnnlkienaaW.PrintLast Go.Proofs.YtmpbcmnnlkienaaW.PrintMore Go.Proofs.Ytmpbcmnnlkienaa.HS Go.Proofs.Ytmpbcmnnlkienaa.Pure
set_option linter.unusedVariables false
set_option linter.unusedSimpArgs false
/-- The reference's words of a row that may be. -/
theorem refWords_call (A : Option Addr) (c : Nat) (r : List (List Int)) (w : World) (hC : Kd.C (Kd.slice 5 (Kd.int .u8)) w A r.length r) (hc : r.length ≤ c) (hb : Byts r) (hm : mayB r = true) :
    Calls Try.prog 29 #[.slice A r.length c] w fun e w' => ∃ (A' : Option Addr) (c' : Nat), e = .returned (.slice A' (wordsB (rowB r)).length c') ∧ (wordsB (rowB r)).length ≤ c' ∧ Kd.C (Kd.int .u64) w' A' (wordsB (rowB r)).length (wordsB (rowB r)) ∧ Below w.heap.size w w' := by
  refine (garnerref13_Words.calls 200 A c r _ w hC hc (refWords_eq hb hm 200 (by omega))).mono fun e w' hp => ?_
  obtain ⟨v, rfl, hr, hb⟩ := hp
  obtain ⟨A', c', rfl, h1, h2⟩ := Kd.R_reads hr
  exact ⟨A', c', rfl, h1, h2, hb⟩
theorem unp_succ (l : List Int) (n : Nat) : unp l (n + 1) = unp l n ++ [byteOf l n] := by
  unfold unp
  rw [List.range_succ, List.map_append]
  rfl
theorem unp_take (l : List Int) (n m : Nat) (h : n ≤ m) : (unp l m).take n = unp l n := by
  unfold unp
  rw [← List.map_take, List.take_range, Nat.min_eq_left h]
theorem byteOf_at (l : List Int) (i k : Nat) (hk : k < 8) : byteOf l (8 * i + k) = rd l ((1 + i : Nat) : Int) / 2 ^ (56 - 8 * k) % 256 := by
  unfold byteOf
  rw [show (8 * i + k) / 8 = i by omega, show (8 * i + k) % 8 = k by omega]
set_option maxHeartbeats 8000000 in
set_option maxRecDepth 100000 in
theorem refOf_bad (A : Option Addr) (c : Nat) (l : List Int) (w : World) (hC : Kd.C (Kd.int .u64) w A l.length l) (hc : l.length ≤ c) (hU : U64s l) (h : ¬ (1 ≤ l.length ∧ l.length ≤ 11 ∧ rd l 0 ≤ 80)) :
    Calls Try.prog 34 #[.slice A l.length c] w (ReadPost none w) := by
  have HC := Aside0.mk hC
  by_cases h1 : l.length < 1
  · clear hC h
    go_enter Try.func34, Try.ntmps34
    go_wp2
    go_ret2
    exact ⟨_, rfl, Rd.Rows.nil _ _, Below.refl _ _⟩
  · by_cases h2 : 11 < l.length
    · clear hC h
      go_enter Try.func34, Try.ntmps34
      go_wp2
      go_ret2
      exact ⟨_, rfl, Rd.Rows.nil _ _, Below.refl _ _⟩
    · obtain ⟨ad, rfl, hx⟩ := Kd.at_int hC 0 (by omega) (by omega)
      have hv := u64_rd hU (i := 0) (by omega)
      obtain ⟨v, hvv⟩ : ∃ v, v = rd l 0 := ⟨_, rfl⟩
      rw [← hvv] at hx h
      simp only [Int.toNat_zero] at hx
      have hx0 : w.cell? ad = some (.int .u64 v) := by rw [show ad.add 0 = ad from by simp [Addr.add]] at hx; exact hx
      have h3 : 80 < v := by omega
      have hl1 : 1 ≤ l.length := by omega
      have hl2 : l.length ≤ 11 := by omega
      clear hC h hvv hv
      go_enter Try.func34, Try.ntmps34
      go_wp2
      go_ret2
      exact ⟨_, rfl, Rd.Rows.nil _ _, Below.refl _ _⟩
set_option maxHeartbeats 8000000 in
set_option maxRecDepth 100000 in
theorem refOf_good (A : Option Addr) (c : Nat) (l : List Int) (w : World) (hC : Kd.C (Kd.int .u64) w A l.length l) (hc : l.length ≤ c) (hU : U64s l) (h1 : 1 ≤ l.length) (h2 : l.length ≤ 11) (h3 : rd l 0 ≤ 80) :
    Calls Try.prog 34 #[.slice A l.length c] w (ReadPost (ofB l) w) := by
  have HC := Aside0.mk hC
  obtain ⟨R, hR⟩ : ∃ R, R = ofB l := ⟨_, rfl⟩
  rw [← hR]
  unfold ofB at hR
  have hv := u64_rd hU (i := 0) (by omega)
  rw [show ((0 : Nat) : Int) = 0 from rfl] at hv
  obtain ⟨n, hn⟩ : ∃ n : Nat, rd l 0 = (n : Int) := ⟨(rd l 0).toNat, by omega⟩
  obtain ⟨ad, rfl, hx⟩ := Kd.at_int hC 0 (by omega) (by omega)
  rw [hn] at hx h3 hR
  rw [Int.toNat_natCast] at hR
  simp only [Int.toNat_zero] at hx
  have hx0 : w.cell? ad = some (.int .u64 n) := by rw [show ad.add 0 = ad from by simp [Addr.add]] at hx; exact hx
  have hn80 : n ≤ 80 := by omega
  have HR := Aside0.mk hR
  have HU := Aside0.mk hU
  obtain ⟨L, hL⟩ : ∃ L, l.length = L + 1 := ⟨l.length - 1, by omega⟩
  have HL := Aside0.mk hL
  clear hC hR hv hn hU hL
  go_enter Try.func34, Try.ntmps34
  go_wp2
  go_loopw [4, 5] (fun v i w' => ∃ k : Nat, k ≤ L ∧ i = .int .i64 ((k + 1 : Nat) : Int) ∧ Aside0 (Rd.Own w' w.heap.size v (unp l (8 * k))) ∧ Aside0 (Below w.heap.size w w')) (fun _ i _ => 12 - (intOf i).toNat)
  case atStart => exact ⟨0, Nat.zero_le _, rfl, ⟨Rd.Own.nil _ _⟩, ⟨Below.refl _ _⟩⟩
  case round =>
    obtain ⟨k, hk, rfl, ho, hb⟩ := hrel
    by_cases hlt : k < L
    · have hq : k + 1 < l.length := by have := HL.out; omega
      obtain ⟨q, hqq⟩ : ∃ q, q = k + 1 := ⟨_, rfl⟩
      have HQ := Aside0.mk hqq
      have hvb := u64_rd HU.out hq
      obtain ⟨v, hv⟩ : ∃ v, v = rd l ((k + 1 : Nat) : Int) := ⟨_, rfl⟩
      rw [← hv] at hvb
      have HV := Aside0.mk hv
      obtain ⟨v0, v1⟩ := hvb
      rw [← hqq] at hq ⊢
      have hql : q ≤ 10 := by omega
      clear hv hqq
      go_wp2
      obtain ⟨wo, hwo⟩ : ∃ wo : World, wo = wr := ⟨_, rfl⟩
      subst hwo
      go_loopw [4, 6] (fun x i w' => ∃ j : Nat, j ≤ 8 ∧ i = .int .i64 (j : Int) ∧ Aside0 (Rd.Own w' w.heap.size x (unp l (8 * k + j))) ∧ Aside0 (Below w.heap.size w w')) (fun _ i _ => 8 - (intOf i).toNat)
      case atStart => exact ⟨0, by omega, rfl, ho, hb⟩
      case round =>
        obtain ⟨j, hj, rfl, ho2, hb2⟩ := hrel
        by_cases hj8 : j < 8
        · obtain ⟨ad2, e2, hy⟩ := Kd.at_int (Kd.C_below HC.out hb2.out) (q : Int) (by omega) (by omega)
          cases e2
          simp only [Int.toNat_natCast] at hy
          rw [show rd l (q : Int) = v from by rw [HV.out, HQ.out]] at hy
          have hbv := byteOf_at l k j hj8
          rw [show (1 + k : Nat) = k + 1 by omega, ← HV.out] at hbv
          have HBV := Aside0.mk hbv
          have hul := unp_len l (8 * k + j)
          have HUL := Aside0.mk hul
          clear hbv hul
          have hk10 : k ≤ 10 := by have := HQ.out; omega
          have hbyte : v / 2 ^ (56 - 8 * j) % 256 < 256 := by omega
          go_wp2_with (first | ((with_reducible refine gate_builtin (b := .append) (xs := #[.tmp 36, .tmp 46]) rfl ?_); at_builtin; refine Rd.append_list w.heap.size rfl (.tmp 36) (.tmp 46) rfl u4 (unp l (8 * k + j)) [v / 2 ^ (56 - 8 * j) % 256] (some ⟨wr.heap.size, 0, none⟩) 1 1 rfl rfl (ho2.out.below (below_alloc (Below.refl _ _) _)) (Rd.C_lit wr .u8 5 [v / 2 ^ (56 - 8 * j) % 256] (by simp)) (by have := hb2.out.size; simp; omega) (by have := HUL.out; simp; omega) ?_; intro v1 w1 ho1 hb1 hg1 hat; have HO1 := Aside0.mk ho1; have HB1 := Aside0.mk hb1; clear ho1 hb1 hg1 hat))
          have hbb : Below w.heap.size w w1 := (hb2.out.trans ((below_alloc (Below.refl wr.heap.size wr) (.cells #[.int .u8 (v / 2 ^ (56 - 8 * j) % 256)] 5)).mono hb2.out.size)).trans HB1.out
          have hoo : Rd.Own w1 w.heap.size v1 (unp l (8 * k + (j + 1))) := by
            rw [show 8 * k + (j + 1) = (8 * k + j) + 1 by omega, unp_succ, HBV.out]
            exact HO1.out
          exact ⟨⟨j + 1, by omega, by simp, ⟨hoo⟩, ⟨hbb⟩⟩, by simp [intOf]; omega⟩
        · obtain rfl : j = 8 := by omega
          go_wp2
          have hq1 : (q : Int) + 1 = ((k + 1 + 1 : Nat) : Int) := by have := HQ.out; omega
          exact ⟨⟨k + 1, by omega, by rw [hq1], ⟨by have := ho2.out; rwa [show 8 * k + 8 = 8 * (k + 1) by omega] at this⟩, hb2⟩, by simp [intOf]; omega⟩
    · obtain rfl : k = L := by omega
      have hLl := HL.out
      have hul := unp_len l (8 * k)
      have hni : IntKind.i64.wrap (n : Int) = (n : Int) := IntWalk.i64_in _ (by omega)
      have hkL : l.length = k + 1 := hLl
      have hkge : l.length ≤ k + 1 := by omega
      have hk10 : k ≤ 10 := by omega
      obtain ⟨A4, c4, e4, hc4, hC4, hlo4⟩ := Rd.Own.reads ho.out
      rw [hul] at e4 hc4
      subst e4
      have HC4 := Aside0.mk hC4
      clear hC4 hlo4 hul hLl
      by_cases hbig : 8 * k < n
      · have hN : R = none := by rw [HR.out]; exact if_neg fun h => by omega
        have HN := Aside0.mk hN
        obtain ⟨m, hm⟩ : ∃ m, m = 8 * k := ⟨_, rfl⟩
        rw [← hm] at hbig ⊢
        have hx5 : wr.cell? ad = some (.int .u64 n) := pw_cell_below hb.out hx0
        clear hN hm hkL
        go_wp2
        try rw [Exit.noGoto_ret]
        go_ret2
        rw [HN.out]
        exact ⟨_, rfl, Rd.Rows.nil _ _, hb.out⟩
      · have hRR : R = (match readB (unp l n) with | some r => if wordsB (rowB r) = l then some r else none | none => none) := by rw [HR.out]; exact if_pos ⟨h1, h2, by omega⟩
        have HRR := Aside0.mk hRR
        have hC5 := Kd.C_take (m := n) HC4.out (by rw [unp_len]; omega)
        rw [unp_take l n (8 * k) (by omega), unp_len] at hC5
        have hrd := refRead A4 c4 (unp l n) wr (by rw [unp_len]; exact hC5) (by rw [unp_len]; omega) (unp_byt l n) (by rw [unp_len]; omega)
        rw [unp_len] at hrd
        have HRD := Aside0.mk hrd
        obtain ⟨i5, hi5, hs5⟩ : ∃ ie, Try.prog.info? 5 = some ie ∧ ie.size = 1 := by
          have h : (Try.prog.info? 5).map (fun i => i.size) = some 1 := by kernel_rfl
          obtain ⟨ie, h1, h2⟩ := Option.map_eq_some_iff.mp h
          exact ⟨ie, h1, h2⟩
        obtain ⟨m, hm⟩ : ∃ m, m = 8 * k := ⟨_, rfl⟩
        rw [← hm] at hbig hc4 ⊢
        have hcut := cut_to (P := Try.prog) 22 5 .i64 Try.underlying22 hi5 A4 m c4 (n : Int) (by omega) (by omega) hc4
        simp only [Int.toNat_natCast] at hcut
        have hx5 : wr.cell? ad = some (.int .u64 n) := pw_cell_below hb.out hx0
        have hnm : n ≤ m := by omega
        clear hRR hC5 hrd hm hkL hbig
        cases hrb : readB (unp l n) with
        | none =>
          have hN : R = none := by rw [HRR.out, hrb]
          rw [hrb] at HRD
          have HN := Aside0.mk hN
          clear hN hrb
          go_wp2_with (first | (go_at_call 32; refine HRD.out.mono ?_; rintro e w2 ⟨v2, rfl, ho2, hb2⟩; have HB2 := Aside0.mk (hb.out.trans (hb2.mono hb.out.size)); clear ho2 hb2))
          try rw [Exit.noGoto_ret]
          go_ret2
          rw [HN.out]
          exact ⟨_, rfl, Rd.Rows.nil _ _, HB2.out⟩
        | some r =>
          rw [hrb] at HRD
          have hN : R = if wordsB (rowB r) = l then some r else none := by rw [HRR.out, hrb]
          have hsp := readB_spec (unp_byt l n) hrb
          have hwl : (wordsB (rowB r)).length ≤ 11 := by rw [wordsB_len]; have := rowB_len hsp.1; omega
          have HSP := Aside0.mk hsp
          have HN := Aside0.mk hN
          obtain ⟨W, hW⟩ : ∃ W, W = wordsB (rowB r) := ⟨_, rfl⟩
          have HW := Aside0.mk hW
          rw [← hW] at hwl
          clear hN hsp hW hrb
          by_cases hWl : W.length = l.length
          · have g1 : ((W.length : Int) != (l.length : Int)) = false := bne_eq_false_iff_eq.mpr (by omega)
            have HWL := Aside0.mk hWl
            clear hWl
            go_wp2_with (first | (go_at_call 32; refine HRD.out.mono ?_; rintro e w2 ⟨v2, rfl, ho2, hb2⟩; have HB2 := Aside0.mk (hb.out.trans (hb2.mono hb.out.size)); obtain ⟨A2, c2, e2, hc2, hC2⟩ := Kd.S_reads ho2; have HO3 := Aside0.mk ho2; subst e2; have HC2 := Aside0.mk hC2; have HL2 := Aside0.mk hc2; clear ho2 hb2 hC2 hc2) | (go_at_call 29; refine (refWords_call A2 c2 r w2 HC2.out HL2.out HSP.out.2.1 HSP.out.1).mono ?_; rw [← HW.out]; rintro e w3 ⟨A3, c3, rfl, hc3, hC3, hb3⟩; have HC3 := Aside0.mk hC3; have HB3 := Aside0.mk (below_step HB2.out hb3); have HB33 := Aside0.mk hb3; clear hC3 hb3))
            go_loopw [11] (fun i w' => ∃ i_ : Nat, i_ ≤ W.length ∧ i = .int .i64 (i_ : Int) ∧ Aside0 (W.take i_ = l.take i_) ∧ Aside0 (∃ nd, w' = w3.drewN nd)) (fun i _ => W.length - (intOf i).toNat)
            case atStart => exact ⟨0, Nat.zero_le _, rfl, ⟨by simp⟩, ⟨⟨0, rfl⟩⟩⟩
            case round =>
              obtain ⟨j, hj, rfl, htk, hdr⟩ := hrel
              obtain ⟨nd, hd⟩ := hdr.out
              subst hd
              clear hdr
              by_cases hjl : j < W.length
              · obtain ⟨ad6, e6, hx6⟩ := Kd.at_int HC3.out (j : Int) (by omega) (by omega)
                subst e6
                obtain ⟨ad7, e7, hx7⟩ := Kd.at_int (Kd.C_below HC.out HB3.out) (j : Int) (by omega) (by have := HWL.out; omega)
                cases e7
                simp only [Int.toNat_natCast] at hx6 hx7
                rw [rd_at W j hjl] at hx6
                have hjl2 : j < l.length := by have := HWL.out; omega
                rw [rd_at l j hjl2] at hx7
                have j0 : (0 : Int) ≤ (j : Int) := by omega
                have j1 : (j : Int) < (W.length : Int) := by omega
                have j2 : (j : Int) < (l.length : Int) := by omega
                obtain ⟨p, hp⟩ : ∃ p, p = W[j] := ⟨_, rfl⟩
                obtain ⟨q, hq⟩ : ∃ q, q = l[j] := ⟨_, rfl⟩
                rw [← hp] at hx6
                rw [← hq] at hx7
                have HPP := Aside0.mk hp
                have HQQ := Aside0.mk hq
                clear hp hq
                by_cases hpq : p = q
                · have g2 : (p != q) = false := bne_eq_false_iff_eq.mpr hpq
                  have HPQ := Aside0.mk hpq
                  clear hpq
                  go_wp2
                  repeat (go_quiet (fail); try go_wp2)
                  exact ⟨⟨j + 1, by omega, by simp, ⟨by rw [List.take_succ_eq_append_getElem hjl, List.take_succ_eq_append_getElem hjl2, htk.out, ← HPP.out, ← HQQ.out, HPQ.out]⟩, ⟨⟨_, rfl⟩⟩⟩, by simp [intOf]; omega⟩
                · have g2 : (p != q) = true := bne_iff_ne.mpr hpq
                  have hN : R = none := by
                    rw [HN.out, ← HW.out]
                    refine if_neg fun h => hpq ?_
                    rw [HPP.out, HQQ.out]
                    simp only [h]
                  have HN2 := Aside0.mk hN
                  clear hpq hN
                  go_wp2
                  repeat (go_quiet (fail); try go_wp2)
                  try rw [Exit.noGoto_ret]
                  go_ret2
                  rw [HN2.out]
                  exact ⟨_, rfl, Rd.Rows.nil _ _, pw_below_drewN (pw_below_drewN HB3.out _) _⟩
              · obtain rfl : j = W.length := by omega
                have hN : R = some r := by
                  rw [HN.out, ← HW.out]
                  refine if_pos ?_
                  have h := htk.out
                  rwa [List.take_length, List.take_of_length_le (by rw [HWL.out]; exact Nat.le_refl _)] at h
                have HN2 := Aside0.mk hN
                clear hN
                go_wp2
                try rw [Exit.noGoto_ret]
                go_ret2
                rw [HN2.out]
                exact ⟨_, rfl, Kd.S_lower (Kd.S_below (Kd.S_below HO3.out HB33.out) (pw_below_drewN (Below.refl _ _) _)) hb.out.size, pw_below_drewN HB3.out _⟩
          · have hN : R = none := by
              rw [HN.out, ← HW.out]
              exact if_neg fun h => hWl (by rw [h])
            have HN2 := Aside0.mk hN
            have g1 : ((W.length : Int) != (l.length : Int)) = true := bne_iff_ne.mpr (by omega)
            clear hN hWl
            go_wp2_with (first | (go_at_call 32; refine HRD.out.mono ?_; rintro e w2 ⟨v2, rfl, ho2, hb2⟩; have HB2 := Aside0.mk (hb.out.trans (hb2.mono hb.out.size)); obtain ⟨A2, c2, e2, hc2, hC2⟩ := Kd.S_reads ho2; have HO3 := Aside0.mk ho2; subst e2; have HC2 := Aside0.mk hC2; have HL2 := Aside0.mk hc2; clear ho2 hb2 hC2 hc2) | (go_at_call 29; refine (refWords_call A2 c2 r w2 HC2.out HL2.out HSP.out.2.1 HSP.out.1).mono ?_; rw [← HW.out]; rintro e w3 ⟨A3, c3, rfl, hc3, hC3, hb3⟩; have HC3 := Aside0.mk hC3; have HB3 := Aside0.mk (below_step HB2.out hb3); have HB33 := Aside0.mk hb3; clear hC3 hb3))
            try rw [Exit.noGoto_ret]
            go_ret2
            rw [HN2.out]
            exact ⟨_, rfl, Rd.Rows.nil _ _, HB3.out⟩
theorem refOf_walk (A : Option Addr) (c : Nat) (l : List Int) (w : World) (hC : Kd.C (Kd.int .u64) w A l.length l) (hc : l.length ≤ c) (hU : U64s l) :
    Calls Try.prog 34 #[.slice A l.length c] w (ReadPost (ofB l) w) := by
  by_cases h : 1 ≤ l.length ∧ l.length ≤ 11 ∧ rd l 0 ≤ 80
  · exact refOf_good A c l w hC hc hU h.1 h.2.1 h.2.2
  · rw [bad_of (fun h2 => h ⟨h2.1, h2.2.1, by omega⟩)]
    exact refOf_bad A c l w hC hc hU h
end Go.Proofs.Ytmpbcmnnlkienaa.Of
