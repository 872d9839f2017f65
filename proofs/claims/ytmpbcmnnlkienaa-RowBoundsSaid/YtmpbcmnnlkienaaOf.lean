/- The references' Read and Of, and row.Of: what each answers, as a plain function of bytes, of words. -/
import Derived.Test.YtmpbcmnnlkienaaHSx2
import Derived.Test.YtmpbcmnnlkienaaHSx4
import Derived.Test.YtmpbcmnnlkienaaHSx5
import Derived.Test.YtmpbcmnnlkienaaPlainB
import Derived.Test.YtmpbcmnnlkienaaRr
namespace Go.Proofs.Ytmpbcmnnlkienaa.Of
open Go.RowKit Go.Proofs.YtmpbcmnnlkienaaW.PrintWords Go.Proofs.YtmpbcmnnlkienaaW.PrintLast Go.Proofs.YtmpbcmnnlkienaaW.PrintMore Go.Proofs.Ytmpbcmnnlkienaa.HS Go.Proofs.Ytmpbcmnnlkienaa.Pure
set_option linter.unusedVariables false
set_option linter.unusedSimpArgs false
/-- A reader, just made. -/
theorem new {w : World} {A : Option Addr} {c : Nat} {b : List Int} (h : Kd.C (Kd.int .u8) w A b.length b) (hc : b.length ≤ c) (hB : Rd.Byt b) :
    Rr.Is (w.alloc (.cells #[.slice A b.length c, .int .i64 0] 78)) w.heap.size w.heap.size b 0 := by
  refine ⟨A, c, blk_new w _, hc, Kd.C_below h (below_alloc (Below.refl _ _) _), fun h0 ad e => ?_, Nat.le_refl _, Nat.zero_le _, hB⟩
  obtain ⟨ad', e', hcell⟩ := h.2.2 h0
  rw [e] at e'
  cases e'
  obtain ⟨c', hl, hK, h2⟩ := hcell 0 b[0] (by simp [h0])
  have := World.block_lt_of_cell? w _ (h2 0 (.int .u8 b[0]) (by rw [hK]; rfl))
  rw [add_block] at this
  exact this
theorem rbs_le {b : List Int} {n most : Nat} (hn : n ≤ b.length) {e : Int} {r : List Int} {m : Nat} (h : Rd.rbs b n most = (e, r, m)) : r.length ≤ most ∧ m ≤ b.length := by
  unfold Rd.rbs at h
  cases hc : Rd.cnt b n most with
  | mk e0 q =>
  obtain ⟨x, m0⟩ := q
  rw [hc] at h
  dsimp only at h
  obtain ⟨h1, h2, h3⟩ := Rd.cnt_le hn hc
  by_cases he : e0 = 0
  · rw [if_pos he] at h
    by_cases hl : b.length - m0 < x
    · rw [if_pos hl] at h
      cases h
      exact ⟨Nat.zero_le _, hn⟩
    · rw [if_neg hl] at h
      cases h
      refine ⟨?_, by omega⟩
      rw [List.length_take]
      omega
  · rw [if_neg he] at h
    cases h
    exact ⟨Nat.zero_le _, hn⟩
theorem takeV_none {b : List Int} (h : Rd.rnum b 10 0 0 0 = none) : takeV b 0 = (4, [], 0) := by
  have hc : Rd.cnt b 0 3 = (4, 0, 0) := by unfold Rd.cnt; rw [h]
  unfold takeV
  rw [hc, if_neg (fun h_ => absurd (show (4 : Int) = 0 from h_) (by decide))]
theorem takeV_some {b : List Int} {x m : Nat} (h : Rd.rnum b 10 0 0 0 = some (x, m)) : takeV b 0 = if 3 < x then (3, [], m) else takeGo b x m [] := by
  by_cases hx : 3 < x
  · have hc : Rd.cnt b 0 3 = (3, 0, m) := by unfold Rd.cnt; rw [h]; exact if_pos hx
    unfold takeV
    rw [hc, if_neg (fun h_ => absurd (show (3 : Int) = 0 from h_) (by decide)), if_pos hx]
  · have hc : Rd.cnt b 0 3 = (0, x, m) := by unfold Rd.cnt; rw [h]; exact if_neg hx
    unfold takeV
    rw [hc, if_pos rfl, if_neg hx]
theorem mayB_nil : mayB [] = false := by decide
set_option maxHeartbeats 8000000 in
set_option maxRecDepth 100000 in
theorem refRead (A : Option Addr) (c : Nat) (b : List Int) (w : World) (hC : Kd.C (Kd.int .u8) w A b.length b) (hc : b.length ≤ c) (hB : Rd.Byt b) (hl : b.length ≤ 1000000) :
    Calls Try.prog 32 #[.slice A b.length c] w (ReadPost (readB b) w) := by
  have HI0 := Aside0.mk (new hC hc hB)
  have HB0 := Aside0.mk (below_alloc (Below.refl w.heap.size w) (.cells #[.slice A b.length c, .int .i64 0] 78))
  obtain ⟨R, hR⟩ : ∃ R, R = readB b := ⟨_, rfl⟩
  rw [← hR]
  unfold readB at hR
  clear hC hB
  have hg0 : w.heap.size < (w.alloc (.cells #[.slice A b.length c, .int .i64 0] 78)).heap.size := HI0.out.lt
  cases hrn : Rd.rnum b 10 0 0 0 with
  | none =>
    rw [takeV_none hrn, if_neg (fun h => absurd h.1 (by decide))] at hR
    subst hR
    have HN := Aside0.mk (Rr.number_none _ HI0.out (by omega) hrn)
    clear hrn
    go_enter Try.func32, Try.ntmps32
    go_wp2_with (first | (go_at_call 54; refine HN.out.mono ?_; rintro e w1 ⟨rfl, hi, hgr⟩; have HB1 := Aside0.mk (HB0.out.grown hgr (Nat.le_of_lt hg0) (fun k hk => by cases hk)); clear hi hgr))
    go_ret2
    exact ⟨_, rfl, Rd.Rows.nil _ _, HB1.out⟩
  | some q =>
    obtain ⟨x, m⟩ := q
    have hbd := Rd.rnum_bd hrn
    have HN := Aside0.mk (Rr.number_some _ HI0.out (by omega) hrn)
    by_cases hx : x < 1 ∨ 3 < x
    · have hR0 : R = none := by
        rw [hR]
        refine if_neg fun h => ?_
        rcases hx with hx | hx
        · rw [takeV_some hrn, if_neg (by omega), show x = 0 by omega] at h
          have h2 : mayB [] = true := h.2.2
          rw [mayB_nil] at h2
          cases h2
        · rw [takeV_some hrn, if_pos hx] at h
          exact absurd (show (3 : Int) = 0 from h.1) (by decide)
      subst hR0
      have hx1 : x < 18446744073709551616 := hbd.1
      clear hrn hbd hR
      by_cases hx0 : x < 1
      · clear hx
        go_enter Try.func32, Try.ntmps32
        go_wp2_with (first | (go_at_call 54; refine HN.out.mono ?_; rintro e w1 ⟨rfl, hi, hgr⟩; have HB1 := Aside0.mk (HB0.out.grown hgr (Nat.le_of_lt hg0) (fun k hk => by cases hk; exact Nat.le_refl _)); clear hi hgr))
        go_ret2
        exact ⟨_, rfl, Rd.Rows.nil _ _, HB1.out⟩
      · replace hx : 3 < x := by omega
        go_enter Try.func32, Try.ntmps32
        go_wp2_with (first | (go_at_call 54; refine HN.out.mono ?_; rintro e w1 ⟨rfl, hi, hgr⟩; have HB1 := Aside0.mk (HB0.out.grown hgr (Nat.le_of_lt hg0) (fun k hk => by cases hk; exact Nat.le_refl _)); clear hi hgr))
        go_ret2
        exact ⟨_, rfl, Rd.Rows.nil _ _, HB1.out⟩
    · have hx1 : 1 ≤ x := by omega
      have hx3 : x ≤ 3 := by omega
      obtain ⟨V, hV⟩ : ∃ V, V = takeV b 0 := ⟨_, rfl⟩
      rw [← hV] at hR
      have hV2 : V = takeGo b x m [] := by rw [hV, takeV_some hrn, if_neg (by omega)]
      have HV := Aside0.mk hV2
      have HR := Aside0.mk hR
      have hxw : IntKind.i64.wrap (x : Int) = (x : Int) := IntWalk.i64_in _ (by omega)
      clear hrn hbd hV hV2 hR hx
      go_enter Try.func32, Try.ntmps32
      go_wp2_with (first | (go_at_call 54; refine HN.out.mono ?_; rintro e w1 ⟨rfl, hi, hgr⟩; have HB1 := Aside0.mk (HB0.out.grown hgr (Nat.le_of_lt hg0) (fun k hk => by cases hk; exact Nat.le_refl _)); have HI1 := Aside0.mk hi; clear hi hgr))
      go_loopw [7, 8] (fun o i w' => ∃ (k m' : Nat) (acc : List (List Int)), i = .int .i64 k ∧ k ≤ x ∧ Aside0 (Rd.Rows w' (w.heap.size + 1) o acc) ∧ Aside0 (Rr.Is w' w.heap.size w.heap.size b m') ∧ Aside0 (Below w.heap.size w w') ∧ Aside0 (acc.length = k) ∧ Aside0 (∀ f ∈ acc, f.length ≤ 24) ∧ Aside0 (V = takeGo b (x - k) m' acc)) (fun _ i _ => x - (intOf i).toNat)
      case atStart => exact ⟨0, m, [], rfl, Nat.zero_le _, ⟨Rd.Rows.nil _ _⟩, HI1, HB1, ⟨rfl⟩, ⟨by simp⟩, HV⟩
      case round =>
        clear HI1 HB1 HV HN HI0 HB0
        obtain ⟨k, m', acc, rfl, hkx, ho, hi, hb, hal, haf, hv⟩ := hrel
        by_cases hlt : k < x
        · cases hrbs : Rd.rbs b m' 24 with
          | mk e1 q1 =>
          obtain ⟨r1, m1⟩ := q1
          have hv' := hv.out
          rw [show x - k = x - (k + 1) + 1 by omega] at hv'
          have HV2 := Aside0.mk (takeGo_step hv' hrbs)
          have hrl := Aside0.mk (rbs_le hi.out.le hrbs)
          have hcl := Rr.bytes w.heap.size w.heap.size b m' 24 wr hi.out (by omega) (by omega)
          rw [hrbs] at hcl
          have HCL := Aside0.mk hcl
          clear hcl hrbs hv hv'
          have hww := hb.out.size
          have hgl := hi.out.lt
          by_cases he : e1 = 0
          · subst he
            have hal' := hal.out
            go_wp2_with (first | (go_at_call 55; refine HCL.out.mono ?_; rintro e w2 ⟨v2, rfl, ho2, hi2, hg2⟩; dsimp only at ho2 hi2; obtain ⟨A2, c2, e2⟩ := Kd.R_slice ho2; subst e2; have HO2 := Aside0.mk ho2; have HI2 := Aside0.mk hi2; have HG2 := Aside0.mk hg2; clear ho2 hi2 hg2) | ((with_reducible refine gate_builtin (b := .append) (xs := #[.tmp 42, .tmp 44]) rfl ?_); at_builtin; refine Rd.rows_append (W1 := wr) (W := w2) (w.heap.size + 1) rfl (.tmp 42) (.tmp 44) 38 rfl Try.underlying38 u7 acc (.slice A2 r1.length c2) r1 rfl rfl ho.out HG2.out.size (fun k hk hlt => HG2.out.block k hlt (by intro e; have h_ := Option.some.inj e; omega)) HO2.out hgl (by omega) ?_; intro v3 w3 ho3 hb3; have HO3 := Aside0.mk ho3; have HB3 := Aside0.mk hb3; clear ho3 hb3))
            have hIs : Rr.Is w3 w.heap.size w.heap.size b m1 := HI2.out.under HB3.out (Nat.lt_succ_self _)
            have hBl : Below w.heap.size w w3 := (hb.out.grown HG2.out hww (fun k hk => by cases hk; exact Nat.le_refl _)).trans (HB3.out.mono (Nat.le_succ _))
            have hv2 := HV2.out
            simp only [if_true] at hv2
            exact ⟨⟨k + 1, m1, acc ++ [r1], by simp, by omega, HO3, ⟨hIs⟩, ⟨hBl⟩, ⟨by rw [List.length_append, hal']; rfl⟩, ⟨fun f hf => by rcases List.mem_append.1 hf with hf | hf; (· exact haf.out f hf); rw [List.mem_singleton.1 hf]; exact hrl.out.1⟩, ⟨hv2⟩⟩, by simp only [intOf]; omega⟩
          · have hN : R = none := by
              have h2 := HV2.out
              rw [if_neg he] at h2
              rw [HR.out, h2]
              exact if_neg fun h => he h.1
            have HN := Aside0.mk hN
            have hbe : (e1 == 0) = false := beq_eq_false_iff_ne.mpr he
            have hbn : (e1 != 0) = true := by simp [bne, hbe]
            clear hN
            go_wp2_with (first | (go_at_call 55; refine HCL.out.mono ?_; rintro e w2 ⟨v2, rfl, ho2, hi2, hg2⟩; have HB2 := Aside0.mk (hb.out.grown hg2 hww (fun k hk => by cases hk; exact Nat.le_refl _)); clear ho2 hi2 hg2))
            try rw [Exit.noGoto_ret]
            go_ret2
            rw [HN.out]
            exact ⟨_, rfl, Rd.Rows.nil _ _, HB2.out⟩
        · obtain rfl : k = x := by omega
          have hvv : V = (0, acc, m') := by have := hv.out; rw [Nat.sub_self] at this; exact this
          have hmay : mayB acc = true := (may_iff acc).2 ⟨by rw [hal.out]; exact hx1, by rw [hal.out]; exact hx3, haf.out⟩
          by_cases hend : m' < b.length
          · have hN : R = none := by
              rw [HR.out, hvv]
              exact if_neg fun h => by have h2 : m' = b.length := h.2.1; omega
            have HN := Aside0.mk hN
            have hpos : (0 : Int) < ((b.length - m' : Nat) : Int) := by omega
            clear hN hvv hv hmay
            go_wp2_with (first | (go_at_call 56; refine (Rr.left _ _ _ _ _ hi.out).mono ?_; rintro e w2 ⟨rfl, m2, rfl⟩))
            try rw [Exit.noGoto_ret]
            go_ret2
            rw [HN.out]
            exact ⟨_, rfl, Rd.Rows.nil _ _, pw_below_drewN hb.out _⟩
          · have hN : R = some acc := by
              rw [HR.out, hvv]
              exact if_pos ⟨rfl, show m' = b.length by have := hi.out.le; omega, hmay⟩
            have HN := Aside0.mk hN
            have hpos : ¬ (0 : Int) < ((b.length - m' : Nat) : Int) := by omega
            clear hN hvv hv hmay
            go_wp2_with (first | (go_at_call 56; refine (Rr.left _ _ _ _ _ hi.out).mono ?_; rintro e w2 ⟨rfl, m2, rfl⟩))
            try rw [Exit.noGoto_ret]
            go_ret2
            rw [HN.out]
            exact ⟨_, rfl, Kd.S_lower (Kd.S_below ho.out (pw_below_drewN (Below.refl _ _) _)) (Nat.le_succ _), pw_below_drewN hb.out _⟩
/-! ### row.Of -/
/-- A byte out of words. -/
def byteOf (l : List Int) (i : Nat) : Int := rd l ((1 + i / 8 : Nat) : Int) / 2 ^ (56 - 8 * (i % 8)) % 256
def unp (l : List Int) (n : Nat) : List Int := (List.range n).map (byteOf l)
def ofB (l : List Int) : Option (List (List Int)) := if 1 ≤ l.length ∧ l.length ≤ 11 ∧ rd l 0 ≤ 8 * ((l.length : Int) - 1) then (match readB (unp l (rd l 0).toNat) with | some r => if wordsB (rowB r) = l then some r else none | none => none) else none
def U64s (l : List Int) : Prop := ∀ x ∈ l, 0 ≤ x ∧ x < 18446744073709551616
theorem u64_rd {l : List Int} (h : U64s l) {i : Nat} (hi : i < l.length) : 0 ≤ rd l i ∧ rd l i < 18446744073709551616 := by
  rw [rd_at l i hi]
  exact h _ (List.getElem_mem hi)
theorem unp_byt (l : List Int) (n : Nat) : Rd.Byt (unp l n) := by
  intro x hx
  obtain ⟨i, _, rfl⟩ := List.mem_map.1 hx
  unfold byteOf
  omega
theorem unp_len (l : List Int) (n : Nat) : (unp l n).length = n := by simp [unp]
/-- k bytes are written. -/
def filled (l : List Int) (n k : Nat) : List Int := (unp l n).take k ++ List.replicate (n - k) 0
theorem filled_len (l : List Int) (n k : Nat) (h : k ≤ n) : (filled l n k).length = n := by
  unfold filled
  rw [List.length_append, List.length_take, unp_len, List.length_replicate]
  omega
theorem filled_set (l : List Int) (n k : Nat) (h : k < n) : (filled l n k).set k (byteOf l k) = filled l n (k + 1) := by
  unfold filled
  have h1 : ((unp l n).take k).length = k := by rw [List.length_take, unp_len]; omega
  rw [List.set_append_right (h := by omega), h1, Nat.sub_self, show n - k = (n - (k + 1)) + 1 by omega, List.replicate_succ, List.set_cons_zero, List.take_succ_eq_append_getElem (by rw [unp_len]; exact h), List.append_assoc]
  congr 1
  show [byteOf l k] ++ _ = _
  congr 2
  simp [unp]
theorem filled_all (l : List Int) (n : Nat) : filled l n n = unp l n := by
  unfold filled
  rw [Nat.sub_self, List.take_of_length_le (by rw [unp_len]; exact Nat.le_refl _)]
  simp
theorem info_u64 : (Try.prog.info? 45).map (fun i => (i.zero, i.size, i.bytes)) = some (some (.int .u64 0), 1, 8) := by kernel_rfl
/-- make([]byte, n), n unsigned. -/
theorem make_u64 (n : Nat) (h : n ≤ 1000) : ∀ W : World, (Instr.makeSlice 22 (.int .u64 (n : Int)) (.int .u64 (n : Int))).run Try.prog W = .ok (.slice (some ⟨W.heap.size, 0, none⟩) n n) (W.alloc (.cells (madeCells #[.int .u8 0] n) 5)) := by
  intro W
  obtain ⟨i0, hi, hzz⟩ := Option.map_eq_some_iff.1 Rd.info_u8
  simp only [Prod.mk.injEq] at hzz
  obtain ⟨hz0, hz1, hz2⟩ := hzz
  have hr := run_make (P := Try.prog) W 22 5 i0 (.int .u8 0) Try.underlying22 hi hz0 .u64 .u64 (n : Int) (n : Int) (by omega) (by omega) (by rw [hz2]; omega) (by omega)
  simp only [Int.toNat_natCast] at hr
  rw [hz1, Nat.mul_one] at hr
  exact hr
theorem own_made (W : World) (n : Nat) (h : n ≤ 1000) : Rd.Own (W.alloc (.cells (madeCells #[.int .u8 0] n) 5)) W.heap.size (.slice (some ⟨W.heap.size, 0, none⟩) n n) (List.replicate n 0) := by
  refine ⟨fun k hk => ?_, (madeCells #[.int .u8 0] n).toList, ?_, ?_⟩
  · have : W.heap.size = k := by simpa [Value.ownBlock] using hk
    omega
  · have h2 := World.ownsRow_lit (base := W.heap.size) (e := 5) (size := 1) W (madeCells #[.int .u8 0] n) n (Nat.le_refl _) (by simp only [maxLen]; omega) (by simp [size_madeCells])
    rw [List.length_replicate]
    exact h2
  · have := Kd.reps_made (R := fun (p : Int) cs => cs = [Value.int .u8 p]) (z := .int .u8 0) (size := 1) (z0 := 0) rfl (by decide) rfl n
    rw [Nat.mul_one] at this
    exact this
theorem bad_of {l : List Int} (h : ¬ (1 ≤ l.length ∧ l.length ≤ 11 ∧ rd l 0 ≤ 8 * ((l.length : Int) - 1))) : ofB l = none := if_neg h
theorem eq_go (a b : List Int) (hlen : a.length = b.length) (hl : a.length < 1000000) : ∀ (k i : Nat), a.length - i < k → i ≤ a.length → slices_Equal_uint64_uint64.l0 k a b (a.length : Int) (i : Int) = some (decide (a.drop i = b.drop i))
  | 0, i, h, _ => by omega
  | k + 1, i, h, hi => by
    rw [slices_Equal_uint64_uint64.l0]
    by_cases hlt : i < a.length
    · rw [if_pos (by omega), if_pos (by omega), if_pos (by omega), if_pos (by omega), rd_at a i hlt, rd_at b i (by omega), w64_1 i (by omega), List.drop_eq_getElem_cons hlt, List.drop_eq_getElem_cons (show i < b.length by omega)]
      by_cases he : a[i] = b[i]
      · rw [if_pos he, eq_go a b hlen hl k (i + 1) (by omega) (by omega), he]
        congr 1
        rw [decide_eq_decide, List.cons.injEq]
        exact ⟨fun h => ⟨rfl, h⟩, fun h => h.2⟩
      · rw [if_neg he]
        symm
        congr 1
        rw [decide_eq_false_iff_not]
        intro h
        rw [List.cons.injEq] at h
        exact he h.1
    · rw [if_neg (by omega), List.drop_eq_nil_of_le (by omega), List.drop_eq_nil_of_le (by omega)]
      simp
theorem eq_eq (a b : List Int) (hl : a.length < 1000000) (k : Nat) (hk : a.length < k) : slices_Equal_uint64_uint64.f k a b = some (decide (a = b)) := by
  unfold slices_Equal_uint64_uint64.f
  by_cases h : a.length = b.length
  · rw [if_pos (by omega), show (0 : Int) = ((0 : Nat) : Int) from rfl, eq_go a b h hl k 0 (by omega) (by omega)]
    rfl
  · rw [if_neg (by omega), decide_eq_false (fun e => h (by rw [e]))]
def RowPost (k : IntKind) (xs : List Int) (en : Int) (w : World) (e : Ending) (w' : World) : Prop := ∃ (A : Option Addr) (c : Nat), e = .returned (.tuple #[.slice A xs.length c, .int .i64 en]) ∧ xs.length ≤ c ∧ Kd.C (Kd.int k) w' A xs.length xs ∧ Below w.heap.size w w'
/-- Words of a row that may be. -/
theorem words_call (A : Option Addr) (c : Nat) (r : List (List Int)) (w : World) (hC : Kd.C (Kd.slice 5 (Kd.int .u8)) w A r.length r) (hc : r.length ≤ c) (hb : Byts r) :
    Calls Try.prog 22 #[.slice A r.length c] w (RowPost .u64 (if mayB r = true then wordsB (rowB r) else []) (if mayB r = true then 0 else 2) w) := by
  refine (row_Words.calls 100 A c r (if mayB r = true then wordsB (rowB r) else []) (if mayB r = true then 0 else 2) w hC hc ((words_eq hb 100 (by omega)).trans (by split <;> rfl))).mono fun e w' hp => ?_
  obtain ⟨v, rfl, hr, hb⟩ := hp
  obtain ⟨A', c', rfl, h1, h2⟩ := Kd.R_reads hr
  exact ⟨A', c', rfl, h1, h2, hb⟩
set_option maxHeartbeats 8000000 in
set_option maxRecDepth 100000 in
theorem of_bad (A : Option Addr) (c : Nat) (l : List Int) (w : World) (hC : Kd.C (Kd.int .u64) w A l.length l) (hc : l.length ≤ c) (hU : U64s l) (h : ¬ (1 ≤ l.length ∧ l.length ≤ 11 ∧ rd l 0 ≤ 8 * ((l.length : Int) - 1))) :
    Calls Try.prog 33 #[.slice A l.length c] w (ReadPost none w) := by
  have HC := Aside0.mk hC
  by_cases h1 : l.length < 1
  · clear hC h
    go_enter Try.func33, Try.ntmps33
    go_wp2
    go_ret2
    exact ⟨_, rfl, Rd.Rows.nil _ _, Below.refl _ _⟩
  · by_cases h2 : 11 < l.length
    · clear hC h
      go_enter Try.func33, Try.ntmps33
      go_wp2
      go_ret2
      exact ⟨_, rfl, Rd.Rows.nil _ _, Below.refl _ _⟩
    · obtain ⟨ad, rfl, hx⟩ := Kd.at_int hC 0 (by omega) (by omega)
      have hv := u64_rd hU (i := 0) (by omega)
      obtain ⟨v, hvv⟩ : ∃ v, v = rd l 0 := ⟨_, rfl⟩
      rw [← hvv] at hx h
      simp only [Int.toNat_zero] at hx
      have hx0 : w.cell? ad = some (.int .u64 v) := by rw [show ad.add 0 = ad from by simp [Addr.add]] at hx; exact hx
      rw [show ((0 : Nat) : Int) = 0 from rfl, ← hvv] at hv
      obtain ⟨v0, v1⟩ := hv
      have h3 : 8 * ((l.length : Int) - 1) < v := by
        rcases Int.lt_or_le (8 * ((l.length : Int) - 1)) v with h3 | h3
        · exact h3
        · exact absurd ⟨by omega, by omega, h3⟩ h
      have hl1 : 1 ≤ l.length := by omega
      have hl2 : l.length ≤ 11 := by omega
      clear hC h hvv
      go_enter Try.func33, Try.ntmps33
      go_wp2
      go_ret2
      exact ⟨_, rfl, Rd.Rows.nil _ _, Below.refl _ _⟩
set_option maxHeartbeats 8000000 in
set_option maxRecDepth 100000 in
theorem of_good (A : Option Addr) (c : Nat) (l : List Int) (w : World) (hC : Kd.C (Kd.int .u64) w A l.length l) (hc : l.length ≤ c) (hU : U64s l) (h1 : 1 ≤ l.length) (h2 : l.length ≤ 11) (h3 : rd l 0 ≤ 8 * ((l.length : Int) - 1)) :
    Calls Try.prog 33 #[.slice A l.length c] w (ReadPost (ofB l) w) := by
  have HC := Aside0.mk hC
  obtain ⟨R, hR⟩ : ∃ R, R = ofB l := ⟨_, rfl⟩
  rw [← hR]
  unfold ofB at hR
  rw [if_pos ⟨h1, h2, h3⟩] at hR
  have hv := u64_rd hU (i := 0) (by omega)
  rw [show ((0 : Nat) : Int) = 0 from rfl] at hv
  obtain ⟨n, hn⟩ : ∃ n : Nat, rd l 0 = (n : Int) := ⟨(rd l 0).toNat, by omega⟩
  obtain ⟨ad, rfl, hx⟩ := Kd.at_int hC 0 (by omega) (by omega)
  rw [hn] at hx h3 hR
  rw [Int.toNat_natCast] at hR
  simp only [Int.toNat_zero] at hx
  have hx0 : w.cell? ad = some (.int .u64 n) := by rw [show ad.add 0 = ad from by simp [Addr.add]] at hx; exact hx
  have hn80 : n ≤ 8 * (l.length - 1) := by omega
  have hmk := make_u64 n (by omega)
  have HO0 := Aside0.mk (own_made w n (by omega))
  generalize madeCells #[Value.int .u8 0] n = cs at hmk HO0
  have HR := Aside0.mk hR
  have HU := Aside0.mk hU
  have HB0 := Aside0.mk (below_alloc (Below.refl w.heap.size w) (.cells cs 5))
  clear hC hR hv hn hU
  go_enter Try.func33, Try.ntmps33
  go_wp2
  clear hmk
  generalize w.alloc (.cells cs 5) = w1 at HO0 HB0
  go_loopw [35] (fun i w' => ∃ k : Nat, k ≤ n ∧ i = .int .i64 k ∧ Aside0 (Rd.Own w' w.heap.size (.slice (some ⟨w.heap.size, 0, none⟩) n n) (filled l n k)) ∧ Aside0 (Below w.heap.size w w')) (fun i _ => n - (intOf i).toNat)
  case atStart => exact ⟨0, Nat.zero_le _, rfl, ⟨by have := HO0.out; unfold filled; simpa using this⟩, HB0⟩
  case round =>
    obtain ⟨k, hk, rfl, ho, hb⟩ := hrel
    clear HO0 HB0
    by_cases hlt : k < n
    · have hq : 1 + k / 8 < l.length := by omega
      obtain ⟨ad2, e2, hy⟩ := Kd.at_int (Kd.C_below HC.out hb.out) ((1 + k / 8 : Nat) : Int) (by omega) (by omega)
      cases e2
      simp only [Int.toNat_natCast] at hy
      obtain ⟨v, hv⟩ : ∃ v, v = rd l ((1 + k / 8 : Nat) : Int) := ⟨_, rfl⟩
      rw [← hv] at hy
      have hvb := u64_rd HU.out hq
      rw [← hv] at hvb
      obtain ⟨v0, v1⟩ := hvb
      have HV := Aside0.mk hv
      clear hv
      have hfl := filled_len l n k hk
      have hoo : Kd.R (Kd.int .u8) 5 wr w.heap.size (fun j => w.heap.size ≤ j) (.slice (some ⟨w.heap.size, 0, none⟩) (filled l n k).length n) (filled l n k) := by rw [hfl]; exact ho.out
      obtain ⟨f0, f1⟩ := Kd.R_cell (0 : Int) hoo (k : Int) (by omega) (by omega)
      simp only [Int.toNat_natCast] at f0 f1
      have HP := Aside0.mk (Kd.R_putg (n := n) ho.out (k : Int) (byteOf l k))
      have HFS := Aside0.mk (filled_set l n k hlt)
      have hbv : v / 2 ^ (56 - 8 * (k % 8)) % 256 = byteOf l k := by unfold byteOf; rw [HV.out]
      have HBV := Aside0.mk hbv
      clear hbv hfl hoo
      go_wp2
      rw [HBV.out]
      have h5 := HP.out
      rw [Int.toNat_natCast, HFS.out] at h5
      exact ⟨⟨k + 1, by omega, by simp, ⟨h5.1⟩, ⟨hb.out.grown h5.2 hb.out.size (fun j hj => by cases hj; exact Nat.le_refl _)⟩⟩, by simp [intOf]; omega⟩
    · obtain rfl : k = n := by omega
      have ho2 := ho.out
      rw [filled_all] at ho2
      have HO2 := Aside0.mk ho2
      have hul := unp_len l k
      have hrd := read.walk (some ⟨w.heap.size, 0, none⟩) k (unp l k) wr (Kd.R_reads' HO2.out).2.2 (by omega) (unp_byt l k) (by omega)
      rw [hul] at hrd
      have HRD := Aside0.mk hrd
      have HSZ := Aside0.mk hb.out.size
      clear hrd ho2 hul
      cases hrb : readB (unp l k) with
      | none =>
        have hN : R = none := by rw [HR.out, hrb]
        rw [hrb] at HRD
        have HN := Aside0.mk hN
        clear hN hrb
        go_wp2_with (first | (go_at_call 31; refine HRD.out.mono ?_; rintro e w2 ⟨v2, rfl, ho2, hb2⟩; have HB2 := Aside0.mk (hb.out.trans (hb2.mono hb.out.size)); clear ho2 hb2))
        try rw [Exit.noGoto_ret]
        go_ret2
        rw [HN.out]
        exact ⟨_, rfl, Rd.Rows.nil _ _, HB2.out⟩
      | some r =>
        rw [hrb] at HRD
        have hN : R = if wordsB (rowB r) = l then some r else none := by rw [HR.out, hrb]
        have hsp := readB_spec (unp_byt l k) hrb
        have hwl : (wordsB (rowB r)).length ≤ 11 := by rw [wordsB_len]; have := rowB_len hsp.1; omega
        have HSP := Aside0.mk hsp
        have HN := Aside0.mk hN
        obtain ⟨W, hW⟩ : ∃ W, W = wordsB (rowB r) := ⟨_, rfl⟩
        have HW := Aside0.mk hW
        rw [← hW] at hwl
        have HEQ := Aside0.mk (eq_eq W l (by omega) 100 (by omega))
        clear hN hsp hW hrb
        by_cases hWl : W = l
        · have hN : R = some r := by rw [HN.out, if_pos (by rw [← HW.out]; exact hWl)]
          have HN := Aside0.mk hN
          have hd : (slices_Equal_uint64_uint64.f 100 W l) = some true := by rw [HEQ.out, decide_eq_true hWl]
          have HD := Aside0.mk hd
          clear hN hd hWl HEQ
          go_wp2_with (first | (go_at_call 31; refine HRD.out.mono ?_; rintro e w2 ⟨v2, rfl, ho2, hb2⟩; have HB2 := Aside0.mk (hb.out.trans (hb2.mono hb.out.size)); obtain ⟨A2, c2, e2, hc2, hC2⟩ := Kd.S_reads ho2; have HO3 := Aside0.mk ho2; subst e2; have HC2 := Aside0.mk hC2; have HL2 := Aside0.mk hc2; clear ho2 hb2 hC2 hc2) | (go_at_call 22; refine (words_call A2 c2 r w2 HC2.out HL2.out HSP.out.2.1).mono ?_; rw [if_pos HSP.out.1, if_pos HSP.out.1, ← HW.out]; rintro e w3 ⟨A3, c3, rfl, hc3, hC3, hb3⟩; have HC3 := Aside0.mk hC3; have HL3 := Aside0.mk hc3; have HB3 := Aside0.mk hb3; clear hC3 hc3 hb3) | (go_at_call 57; refine (slices_Equal_uint64_uint64.calls 100 A3 c3 W (some ad) c l true w3 HC3.out HL3.out (Kd.C_below HC.out (below_step HB2.out HB3.out)) hc HD.out).mono ?_; rintro e w4 ⟨rfl, ⟨nd, rfl⟩⟩))
          go_ret2
          rw [HN.out]
          exact ⟨_, rfl, Kd.S_lower (Kd.S_below (Kd.S_below HO3.out HB3.out) (pw_below_drewN (Below.refl _ _) _)) HSZ.out, pw_below_drewN (below_step HB2.out HB3.out) _⟩
        · have hN : R = none := by rw [HN.out, if_neg (by rw [← HW.out]; exact hWl)]
          have HN := Aside0.mk hN
          have hd : (slices_Equal_uint64_uint64.f 100 W l) = some false := by rw [HEQ.out, decide_eq_false hWl]
          have HD := Aside0.mk hd
          clear hN hd hWl HEQ
          go_wp2_with (first | (go_at_call 31; refine HRD.out.mono ?_; rintro e w2 ⟨v2, rfl, ho2, hb2⟩; have HB2 := Aside0.mk (hb.out.trans (hb2.mono hb.out.size)); obtain ⟨A2, c2, e2, hc2, hC2⟩ := Kd.S_reads ho2; subst e2; have HC2 := Aside0.mk hC2; have HL2 := Aside0.mk hc2; clear ho2 hb2 hC2 hc2) | (go_at_call 22; refine (words_call A2 c2 r w2 HC2.out HL2.out HSP.out.2.1).mono ?_; rw [if_pos HSP.out.1, if_pos HSP.out.1, ← HW.out]; rintro e w3 ⟨A3, c3, rfl, hc3, hC3, hb3⟩; have HC3 := Aside0.mk hC3; have HL3 := Aside0.mk hc3; have HB3 := Aside0.mk hb3; clear hC3 hc3 hb3) | (go_at_call 57; refine (slices_Equal_uint64_uint64.calls 100 A3 c3 W (some ad) c l false w3 HC3.out HL3.out (Kd.C_below HC.out (below_step HB2.out HB3.out)) hc HD.out).mono ?_; rintro e w4 ⟨rfl, ⟨nd, rfl⟩⟩))
          go_ret2
          rw [HN.out]
          exact ⟨_, rfl, Rd.Rows.nil _ _, pw_below_drewN (below_step HB2.out HB3.out) _⟩
theorem of_walk (A : Option Addr) (c : Nat) (l : List Int) (w : World) (hC : Kd.C (Kd.int .u64) w A l.length l) (hc : l.length ≤ c) (hU : U64s l) :
    Calls Try.prog 33 #[.slice A l.length c] w (ReadPost (ofB l) w) := by
  by_cases h : 1 ≤ l.length ∧ l.length ≤ 11 ∧ rd l 0 ≤ 8 * ((l.length : Int) - 1)
  · exact of_good A c l w hC hc hU h.1 h.2.1 h.2.2
  · rw [bad_of h]
    exact of_bad A c l w hC hc hU h
end Go.Proofs.Ytmpbcmnnlkienaa.Of
