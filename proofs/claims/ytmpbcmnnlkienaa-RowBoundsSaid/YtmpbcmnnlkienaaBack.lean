/- The law RowBack's call. -/
import Derived.Test.YtmpbcmnnlkienaaWrites
import Derived.Test.YtmpbcmnnlkienaaPlainD
namespace Go.Proofs.Ytmpbcmnnlkienaa.Of
open Go.RowKit Go.Proofs.YtmpbcmnnlkienaaW.PrintWords Go.Proofs.YtmpbcmnnlkienaaW.PrintLast Go.Proofs.YtmpbcmnnlkienaaW.PrintMore Go.Proofs.Ytmpbcmnnlkienaa.HS Go.Proofs.Ytmpbcmnnlkienaa.Pure
set_option linter.unusedVariables false
set_option linter.unusedSimpArgs false
theorem unp_wordsB {b : List Int} (hb : Rd.Byt b) : unp (wordsB b) b.length = b := by
  apply List.ext_getElem (unp_len _ _)
  intro i h1 h2
  have h3 : (unp (wordsB b) b.length)[i] = byteOf (wordsB b) i := by simp [unp]
  rw [h3, ← rd_at b i h2, wordsB_byte hb h2]
  have h4 : 0 ≤ rd (wordsB b) ((1 + i / 8 : Nat) : Int) := by
    unfold rd wordsB
    rw [Int.toNat_natCast, show 1 + i / 8 = i / 8 + 1 by omega, List.getD_cons_succ, List.getD_eq_getElem?_getD, List.getElem?_map, List.getElem?_range (by omega)]
    exact Int.natCast_nonneg _
  unfold byteOf
  obtain ⟨v, hv⟩ : ∃ v : Nat, rd (wordsB b) ((1 + i / 8 : Nat) : Int) = (v : Int) := ⟨_, (Int.toNat_of_nonneg h4).symm⟩
  rw [hv, Int.toNat_natCast, pow256, show 8 * (7 - i % 8) = 56 - 8 * (i % 8) by omega]
  simp
theorem ofB_wordsB {r : List (List Int)} (hb : Byts r) (h : mayB r = true) : ofB (wordsB (rowB r)) = some r := by
  have hl := rowB_len h
  have h0 : rd (wordsB (rowB r)) 0 = ((rowB r).length : Int) := rfl
  have hw := wordsB_len (rowB r)
  unfold ofB
  rw [if_pos ⟨by omega, by omega, by rw [h0]; omega⟩, h0, Int.toNat_natCast, unp_wordsB (rowB_byt hb h), readB_rowB h]
  dsimp only
  rw [if_pos rfl]
theorem wordsB_u64 (b : List Int) (hb : Rd.Byt b) (hl : b.length ≤ 1000) : U64s (wordsB b) := by
  intro x hx
  rcases List.mem_cons.1 hx with rfl | hx
  · omega
  · obtain ⟨q, _, rfl⟩ := List.mem_map.1 hx
    have h := pk_lt hb q 8
    have h2 : (256 : Nat) ^ 8 = 18446744073709551616 := by decide
    omega
theorem entryOk_iff {f k : List Int} : entryOk f k = true ↔ f.length ≤ 24 ∧ 1 ≤ k.length ∧ k.length ≤ 32 := by unfold entryOk; simp
theorem entry_call {A B : Option Addr} {c d : Nat} {f k : List Int} {w : World} (hA : Kd.C (Kd.int .u8) w A f.length f) (hc : f.length ≤ c) (hB : Kd.C (Kd.int .u8) w B k.length k) (hd : k.length ≤ d) :
    Calls Try.prog 15 #[.slice A f.length c, .slice B k.length d] w (RowPost .u8 (if entryOk f k = true then entryB f k else []) (if entryOk f k = true then 0 else 2) w) := by
  refine (row_Entry.calls A c f B d k _ _ w hA hc hB hd (entry_eq f k)).mono fun e w' hp => ?_
  obtain ⟨v, rfl, hr, hb⟩ := hp
  obtain ⟨A', c', rfl, h1, h2⟩ := Kd.R_reads hr
  exact ⟨A', c', rfl, h1, h2, hb⟩
theorem front_call {A : Option Addr} {c : Nat} {f : List Int} {w : World} (hA : Kd.C (Kd.int .u8) w A f.length f) (hc : f.length ≤ c) (h24 : f.length ≤ 24) :
    Calls Try.prog 14 #[.slice A f.length c] w (RowPost .u8 (frontB f) 0 w) := by
  refine (row_Front.calls A c f _ _ w hA hc (by rw [front_eq, if_pos h24])).mono fun e w' hp => ?_
  obtain ⟨v, rfl, hr, hb⟩ := hp
  obtain ⟨A', c', rfl, h1, h2⟩ := Kd.R_reads hr
  exact ⟨A', c', rfl, h1, h2, hb⟩
def SplitOut (p q : List Int) (en : Int) (w : World) (e : Ending) (w' : World) : Prop := ∃ (A1 : Option Addr) (c1 : Nat) (A2 : Option Addr) (c2 : Nat), e = .returned (.tuple #[.slice A1 p.length c1, .slice A2 q.length c2, .int .i64 en]) ∧ p.length ≤ c1 ∧ q.length ≤ c2 ∧ Kd.C (Kd.int .u8) w' A1 p.length p ∧ Kd.C (Kd.int .u8) w' A2 q.length q ∧ Below w.heap.size w w'
theorem split_call {A : Option Addr} {c : Nat} {b p q : List Int} {en : Int} {w : World} (hA : Kd.C (Kd.int .u8) w A b.length b) (hc : b.length ≤ c) (hf : row_Split.f b = some (p, q, en)) :
    Calls Try.prog 11 #[.slice A b.length c] w (SplitOut p q en w) := by
  refine (row_Split.calls A c b p q en w hA hc hf).mono fun e w' hp => ?_
  obtain ⟨v0, v1, rfl, h1, h2, hb⟩ := hp
  obtain ⟨A1, c1, rfl, h3, h4⟩ := Kd.R_reads h1
  obtain ⟨A2, c2, rfl, h5, h6⟩ := Kd.R_reads h2
  exact ⟨A1, c1, A2, c2, rfl, h3, h5, h4, h6, hb⟩
theorem less_call {A B : Option Addr} {c d : Nat} {a b : List Int} {w : World} (hA : Kd.C (Kd.int .u8) w A a.length a) (hc : a.length ≤ c) (hB : Kd.C (Kd.int .u8) w B b.length b) (hd : b.length ≤ d) (ha : Rd.Byt a) (hb : Rd.Byt b) :
    Calls Try.prog 35 #[.slice A a.length c, .slice B b.length d] w fun e w' => e = .returned (.int .i64 (lexC a b)) ∧ Drawn0 w w' := garnerlaw13_less.calls A c a B d b _ w hA hc hB hd (less_eq ha hb)
theorem split_some {b : List Int} (hb : Rd.Byt b) (hl : b.length ≤ 1000000) {p q : List Int} (h : splitGo b [] = some (p, q)) : row_Split.f b = some (p, q, 0) := by
  unfold row_Split.f
  rw [if_pos ⟨by unfold bytB; rw [List.all_eq_true]; exact fun x hx => decide_eq_true (hb x hx), hl⟩, h]
theorem split_none {b : List Int} (hb : Rd.Byt b) (hl : b.length ≤ 1000000) (h : splitGo b [] = none) : row_Split.f b = some ([], [], 4) := by
  unfold row_Split.f
  rw [if_pos ⟨by unfold bytB; rw [List.all_eq_true]; exact fun x hx => decide_eq_true (hb x hx), hl⟩, h]
/-- What RowBack is given. -/
structure BackIn (w : World) (A B F0 F1 K0 K1 : Option Addr) (c d a0 a1 b0 b1 : Nat) (l : List (List Int)) (b f0 f1 k0 k1 : List Int) : Prop where
  hA : Kd.C (Kd.slice 5 (Kd.int .u8)) w A l.length l
  hc : l.length ≤ c
  hB : Kd.C (Kd.int .u8) w B b.length b
  hd : b.length ≤ d
  hF0 : Kd.C (Kd.int .u8) w F0 f0.length f0
  ha0 : f0.length ≤ a0
  hF1 : Kd.C (Kd.int .u8) w F1 f1.length f1
  ha1 : f1.length ≤ a1
  hK0 : Kd.C (Kd.int .u8) w K0 k0.length k0
  hb0 : k0.length ≤ b0
  hK1 : Kd.C (Kd.int .u8) w K1 k1.length k1
  hb1 : k1.length ≤ b1
  yl : Byts l
  yb : Rd.Byt b
  yf0 : Rd.Byt f0
  yf1 : Rd.Byt f1
  yk0 : Rd.Byt k0
  yk1 : Rd.Byt k1
  hl : l.length < 1000000000000000
theorem BackIn.below {w wx : World} {A B F0 F1 K0 K1 : Option Addr} {c d a0 a1 b0 b1 : Nat} {l : List (List Int)} {b f0 f1 k0 k1 : List Int} (H : BackIn w A B F0 F1 K0 K1 c d a0 a1 b0 b1 l b f0 f1 k0 k1) (hb : Below w.heap.size w wx) : BackIn wx A B F0 F1 K0 K1 c d a0 a1 b0 b1 l b f0 f1 k0 k1 :=
  ⟨Kd.C_below H.hA hb, H.hc, Kd.C_below H.hB hb, H.hd, Kd.C_below H.hF0 hb, H.ha0, Kd.C_below H.hF1 hb, H.ha1, Kd.C_below H.hK0 hb, H.hb0, Kd.C_below H.hK1 hb, H.hb1, H.yl, H.yb, H.yf0, H.yf1, H.yk0, H.yk1, H.hl⟩
theorem rows_read {b : List Int} {A : Option Addr} {c : Nat} {w : World} (hA : Kd.C (Kd.int .u8) w A b.length b) (hc : b.length ≤ c) (hB : Rd.Byt b) (hl : b.length ≤ 1000000) {rr : List (List Int)} {en : Int} (h1 : (readB b).getD [] = rr) (h2 : errOf (readB b) = en) :
    Calls Try.prog 31 #[.slice A b.length c] w (RowsOut rr en w) := (read.walk A c b w hA hc hB hl).mono fun e w' h => rows_out h1.symm h2.symm h
theorem rows_of {b : List Int} {A : Option Addr} {c : Nat} {w : World} (hA : Kd.C (Kd.int .u64) w A b.length b) (hc : b.length ≤ c) (hU : U64s b) {rr : List (List Int)} {en : Int} (h1 : (ofB b).getD [] = rr) (h2 : errOf (ofB b) = en) :
    Calls Try.prog 33 #[.slice A b.length c] w (RowsOut rr en w) := (of_walk A c b w hA hc hU).mono fun e w' h => rows_out h1.symm h2.symm h
theorem readB_nil : readB [] = none := by decide +kernel
theorem ofB_nil : ofB [] = none := bad_of (by simp)
/-- What row.Bytes, row.Words answer of a row, and what reads them. -/
theorem partA (l : List (List Int)) (hY : Byts l) : ∃ (xb xw : List Int) (xe : Int) (rr : List (List Int)) (e1 : Int),
    (if mayB l = true then rowB l else []) = xb ∧ (if mayB l = true then wordsB (rowB l) else []) = xw ∧ (if mayB l = true then (0 : Int) else 2) = xe ∧ (readB xb).getD [] = rr ∧ errOf (readB xb) = e1 ∧ (ofB xw).getD [] = rr ∧ errOf (ofB xw) = e1 ∧ Rd.Byt xb ∧ xb.length ≤ 1000 ∧ U64s xw ∧ Byts rr ∧ (xe = 2 ∨ (xe = 0 ∧ e1 = 0 ∧ rr = l)) := by
  by_cases h : mayB l = true
  · have hb := rowB_byt hY h
    have hl := rowB_len h
    refine ⟨rowB l, wordsB (rowB l), 0, l, 0, if_pos h, if_pos h, if_pos h, by rw [readB_rowB h]; rfl, by rw [readB_rowB h]; rfl, by rw [ofB_wordsB hY h]; rfl, by rw [ofB_wordsB hY h]; rfl, hb, by omega, wordsB_u64 _ hb (by omega), hY, Or.inr ⟨rfl, rfl, rfl⟩⟩
  · exact ⟨[], [], 2, [], 4, if_neg h, if_neg h, if_neg h, by rw [readB_nil]; rfl, by rw [readB_nil]; rfl, by rw [ofB_nil]; rfl, by rw [ofB_nil]; rfl, fun x hx => by simp at hx, by simp, fun x hx => by simp at hx, byts_nil, Or.inl rfl⟩
/-- What reading bytes answers, and what that row's bytes are. -/
theorem partR {b : List Int} (hb : Rd.Byt b) : ∃ (rr : List (List Int)) (e1 : Int) (yb : List Int) (ye : Int), (readB b).getD [] = rr ∧ errOf (readB b) = e1 ∧ (if mayB rr = true then rowB rr else []) = yb ∧ (if mayB rr = true then (0 : Int) else 2) = ye ∧ (e1 = 4 ∨ (e1 = 0 ∧ ye = 0 ∧ b = yb)) := by
  cases h : readB b with
  | none => exact ⟨[], 4, [], 2, rfl, rfl, by rw [if_neg (by decide)], by rw [if_neg (by decide)], Or.inl rfl⟩
  | some r =>
    obtain ⟨h1, h2, h3⟩ := readB_spec hb h
    exact ⟨r, 0, b, 0, rfl, rfl, by rw [if_pos h1, h3], if_pos h1, Or.inr ⟨rfl, rfl, rfl⟩⟩
theorem partS {b : List Int} (hb : Rd.Byt b) (hl : b.length ≤ 1000000) : ∃ (p q : List Int) (h : Int) (z : List Int) (i : Int), row_Split.f b = some (p, q, h) ∧ (if entryOk p q = true then entryB p q else []) = z ∧ (if entryOk p q = true then (0 : Int) else 2) = i ∧ (h = 4 ∨ (h = 0 ∧ i = 0 ∧ b = z)) := by
  cases h : splitGo b [] with
  | none => exact ⟨[], [], 4, _, _, split_none hb hl h, rfl, rfl, Or.inl rfl⟩
  | some pq =>
    obtain ⟨p, q⟩ := pq
    obtain ⟨p', h1, h2, h3⟩ := splitGo_spec b.length b [] p q (Nat.le_refl _) h
    have ho : entryOk p q = true := entryOk_iff.2 h3
    exact ⟨p, q, 0, _, _, split_some hb hl h, rfl, rfl, Or.inr ⟨rfl, if_pos ho, by rw [if_pos ho, h1]; exact h2⟩⟩
theorem arr_cells {w : World} {a b c d : Value} {W : World} (h : W = (w.alloc (.cells #[a, b] 58)).alloc (.cells #[c, d] 58)) :
    W.cell? ⟨w.heap.size, 0, none⟩ = some a ∧ W.cell? ⟨w.heap.size, 1, none⟩ = some b ∧ W.cell? ⟨w.heap.size + 1, 0, none⟩ = some c ∧ W.cell? ⟨w.heap.size + 1, 1, none⟩ = some d := by
  subst h
  have h1 := blk_new w (.cells #[a, b] 58)
  have h2 := (below_alloc (Below.refl (w.alloc (.cells #[a, b] 58)).heap.size (w.alloc (.cells #[a, b] 58))) (.cells #[c, d] 58)).block w.heap.size (by simp)
  have h3 := blk_new (w.alloc (.cells #[a, b] 58)) (.cells #[c, d] 58)
  rw [show (w.alloc (.cells #[a, b] 58)).heap.size = w.heap.size + 1 by simp] at h3
  rw [h1] at h2
  exact ⟨(blk_cell h2 0).trans rfl, (blk_cell h2 1).trans rfl, (blk_cell h3 0).trans rfl, (blk_cell h3 1).trans rfl⟩
theorem ok_err {f k g m : List Int} (h : ¬ (entryOk f k = true ∧ entryOk g m = true)) : ∃ e1 e2 : Int, (if entryOk f k = true then (0 : Int) else 2) = e1 ∧ (if entryOk g m = true then (0 : Int) else 2) = e2 ∧ ((e1 = 0 ∧ e2 = 2) ∨ (e1 = 2 ∧ e2 = 0) ∨ (e1 = 2 ∧ e2 = 2)) := by
  by_cases h1 : entryOk f k = true
  · by_cases h2 : entryOk g m = true
    · exact absurd ⟨h1, h2⟩ h
    · exact ⟨0, 2, if_pos h1, if_neg h2, Or.inl ⟨rfl, rfl⟩⟩
  · by_cases h2 : entryOk g m = true
    · exact ⟨2, 0, if_neg h1, if_pos h2, Or.inr (Or.inl ⟨rfl, rfl⟩)⟩
    · exact ⟨2, 2, if_neg h1, if_neg h2, Or.inr (Or.inr ⟨rfl, rfl⟩)⟩
theorem lexC_neg {a b : List Int} : lexC a b < 0 ↔ lexC a b = -1 := by
  rcases lexC_vals a b with h | h | h <;> rw [h] <;> decide
def beginsB (f g : List Int) : Bool := decide (g.length ≤ f.length) && decide (txt (f.take g.length) = txt g)
theorem begins_facts {f g k : List Int} (hf : Rd.Byt f) (hg : Rd.Byt g) : (beginsB f g = true → ¬ lexC (entryB f k) (frontB g) < 0) ∧ (lexC f g < 0 → lexC (entryB f k) (frontB g) < 0) := by
  refine ⟨fun h => ?_, fun h => lexC_neg.2 (lexC_front f g k hf hg (lexC_neg.1 h))⟩
  unfold beginsB at h
  rw [Bool.and_eq_true, decide_eq_true_iff, decide_eq_true_iff] at h
  have h2 := txt_inj (fun x hx => hf x (List.mem_of_mem_take hx)) hg h.2
  have h3 := List.take_append_drop g.length f
  rw [h2] at h3
  rw [lexC_neg, ← h3]
  exact lexC_begins g _ k
theorem entryB_byt {f k : List Int} (hf : Rd.Byt f) (hk : Rd.Byt k) : Rd.Byt (entryB f k) := by
  unfold entryB
  intro x hx
  rcases List.mem_append.1 hx with hx | hx
  · rcases List.mem_append.1 hx with hx | hx
    · exact frontB_byt hf x hx
    · simp at hx; omega
  · exact hk x hx
theorem entryB_len (f k : List Int) : (entryB f k).length ≤ 2 * f.length + 2 + k.length := by
  unfold entryB
  have := frontB_len f
  simp only [List.length_append, List.length_cons, List.length_nil]
  omega
set_option maxHeartbeats 16000000 in
set_option maxRecDepth 100000 in
theorem back_walk (A B F0 F1 K0 K1 : Option Addr) (c d a0 a1 b0 b1 : Nat) (l : List (List Int)) (b f0 f1 k0 k1 : List Int) (w : World) (H : BackIn w A B F0 F1 K0 K1 c d a0 a1 b0 b1 l b f0 f1 k0 k1) :
    Calls Try.prog 8 #[.slice A l.length c, .agg #[.slice F0 f0.length a0, .slice F1 f1.length a1], .agg #[.slice K0 k0.length b0, .slice K1 k1.length b1], .slice B b.length d] w (RightPost w) := by
  obtain ⟨Wb, hWb⟩ : ∃ Wb, Wb = (w.alloc (.cells #[.slice F0 f0.length a0, .slice F1 f1.length a1] 58)).alloc (.cells #[.slice K0 k0.length b0, .slice K1 k1.length b1] 58) := ⟨_, rfl⟩
  have hwW : Below w.heap.size w Wb := by rw [hWb]; exact (below_alloc (below_alloc (Below.refl _ _) _) _)
  obtain ⟨n, hn, hn9⟩ := size_eq l H.hl (l.length + 1) (by omega)
  have HI := Aside0.mk (H.below hwW)
  have HW := Aside0.mk hWb
  have HwW := Aside0.mk hwW
  have HN := Aside0.mk hn
  have HN9 := Aside0.mk hn9
  have hc := H.hc
  have hd := H.hd
  clear H hWb hwW hn hn9
  go_enter Try.func8, Try.ntmps8
  go_upto_if 41 with (first | (go_at_call 10; rw [← HW.out]; refine (known_call _).mono ?_; rintro e w1 ⟨rfl, hb1⟩; have HB1 := Aside0.mk hb1; clear hb1) | (go_at_call 20; refine (size_call (HI.out.below HB1.out).hA hc n HN.out).mono ?_; rintro e w2 ⟨rfl, hb2⟩; have HB2 := Aside0.mk (below_step HB1.out hb2); clear hb2))
  go_cut [] (fun wx => Aside0 (Below Wb.heap.size Wb wx))
  case first =>
    by_cases hs : n ≤ 9000
    · have g1 : decide ((n : Int) ≤ 9000) = true := by simp; omega
      obtain ⟨xb, xw, xe, rr, e1, h1, h2, h3, h4, h5, h6, h7, h8, h9, h10, h11, h12⟩ := partA l HI.out.yl
      have HI2 := Aside0.mk (HI.out.below HB2.out)
      have CB := Aside0.mk (bytes_call HI2.out.hA hc)
      have CW := Aside0.mk (fun (W : World) (h : Kd.C (Kd.slice 5 (Kd.int .u8)) W A l.length l) => words_call A c l W h hc HI.out.yl)
      rw [h1, h3] at CB
      rw [h2, h3] at CW
      have H4 := Aside0.mk h4
      have H5 := Aside0.mk h5
      have H6 := Aside0.mk h6
      have H7 := Aside0.mk h7
      have H8 := Aside0.mk h8
      have H10 := Aside0.mk h10
      have H11 := Aside0.mk h11
      clear h1 h2 h3 h4 h5 h6 h7 h8 h10 h11
      rcases h12 with rfl | ⟨rfl, rfl, rfl⟩
      all_goals
        go_wp2_with (first | (go_at_call 21; refine CB.out.mono ?_; rintro e w3 ⟨A3, c3, rfl, hc3, hC3, hb3⟩; have HC3 := Aside0.mk hC3; have HB3 := Aside0.mk (below_step HB2.out hb3); clear hC3 hb3) | (go_at_call 22; refine (CW.out w3 (HI.out.below HB3.out).hA).mono ?_; rintro e w4 ⟨A4, c4, rfl, hc4, hC4, hb4⟩; have HC4 := Aside0.mk hC4; have HB4 := Aside0.mk (below_step HB3.out hb4); have HC34 := Aside0.mk (Kd.C_below HC3.out hb4); clear hC4 hb4) | (go_at_call 31; refine (rows_read (by first | exact Kd.C_drewN HC34.out _ | exact Kd.C_drewN (Kd.C_drewN HC34.out _) _) hc3 H8.out (by omega) H4.out H5.out).mono ?_; rintro e w5 ⟨A5, c5, rfl, hc5, hC5, hR5, hb5⟩; have HC5 := Aside0.mk hC5; have HB5 := Aside0.mk (below_step (by first | exact pw_below_drewN HB4.out _ | exact pw_below_drewN (pw_below_drewN HB4.out _) _) hb5); have HC45 := Aside0.mk (Kd.C_below (by first | exact Kd.C_drewN HC4.out _ | exact Kd.C_drewN (Kd.C_drewN HC4.out _) _) hb5); clear hC5 hR5 hb5) | (go_at_call 33; refine (rows_of HC45.out hc4 H10.out H6.out H7.out).mono ?_; rintro e w6 ⟨A6, c6, rfl, hc6, hC6, hR6, hb6⟩; have HC6 := Aside0.mk hC6; have HB6 := Aside0.mk (below_step HB5.out hb6); have HC56 := Aside0.mk (Kd.C_below HC5.out hb6); have HA6 := Aside0.mk (HI.out.below HB6.out).hA; clear hC6 hR6 hb6) | (go_at_call 13; refine (num_call _ _).mono ?_; rintro e w8 ⟨rfl, ⟨m3, rfl⟩⟩) | ((with_reducible refine (rowSame_call (A := A5) (B := A) (by first | exact HC56.out | exact Kd.C_drewN HC56.out _ | exact Kd.C_drewN (Kd.C_drewN HC56.out _) _) hc5 (by first | exact HA6.out | exact Kd.C_drewN HA6.out _ | exact Kd.C_drewN (Kd.C_drewN HA6.out _) _) hc H11.out HI.out.yl true (by simp)).mono ?_); rintro e w7 ⟨rfl, ⟨m4, rfl⟩⟩) | ((with_reducible refine (rowSame_call (A := A6) (B := A) (by first | exact HC6.out | exact Kd.C_drewN HC6.out _ | exact Kd.C_drewN (Kd.C_drewN HC6.out _) _) hc6 (by first | exact HA6.out | exact Kd.C_drewN HA6.out _ | exact Kd.C_drewN (Kd.C_drewN HA6.out _) _) hc H11.out HI.out.yl true (by simp)).mono ?_); rintro e w7 ⟨rfl, ⟨m5, rfl⟩⟩))
        go_meet
        exact ⟨by first | exact pw_below_drewN HB6.out _ | exact pw_below_drewN (pw_below_drewN HB6.out _) _⟩
    · have g1 : decide ((n : Int) ≤ 9000) = false := by simp; omega
      go_wp2
      go_meet
      exact HB2
  case rest =>
    have hcut2 := hcut
    obtain ⟨w9, hw9⟩ : ∃ W, W = wc := ⟨_, rfl⟩
    subst hw9
    clear hcut HB1
    go_upto_if 92 with fail
    go_cut [] (fun wx => Aside0 (Below Wb.heap.size Wb wx))
    case first =>
      by_cases hs : b.length ≤ 9000
      · have g1 : decide ((b.length : Int) ≤ 9000) = true := by simp; omega
        have HI9 := Aside0.mk (HI.out.below hcut2.out)
        obtain ⟨rr, e1, yb, ye, r1, r2, r3, r4, r5⟩ := partR HI.out.yb
        obtain ⟨p, q, h, z, i, s1, s2, s3, s4⟩ := partS HI.out.yb (by omega)
        have CB := Aside0.mk (fun (A : Option Addr) (c : Nat) (W : World) (h : Kd.C (Kd.slice 5 (Kd.int .u8)) W A rr.length rr) (h2 : rr.length ≤ c) => bytes_call h h2)
        have CE := Aside0.mk (fun (A B : Option Addr) (c d : Nat) (W : World) (h : Kd.C (Kd.int .u8) W A p.length p) (h2 : p.length ≤ c) (h3 : Kd.C (Kd.int .u8) W B q.length q) (h4 : q.length ≤ d) => entry_call h h2 h3 h4)
        rw [r3, r4] at CB
        rw [s2, s3] at CE
        have R1 := Aside0.mk r1
        have R2 := Aside0.mk r2
        have S1 := Aside0.mk s1
        clear r1 r2 r3 r4 s1 s2 s3
        rcases r5 with rfl | ⟨rfl, rfl, rfl⟩ <;> rcases s4 with rfl | ⟨rfl, rfl, rfl⟩
        all_goals
          as_aux_lemma =>
            go_wp2_with (first | (go_at_call 31; refine (rows_read HI9.out.hB hd HI.out.yb (by omega) R1.out R2.out).mono ?_; rintro e w3 ⟨A3, c3, rfl, hc3, hC3, hR3, hb3⟩; have HC3 := Aside0.mk hC3; have HB3 := Aside0.mk (below_step hcut2.out hb3); clear hC3 hR3 hb3) | (go_at_call 21; refine (CB.out A3 c3 w3 HC3.out hc3).mono ?_; rintro e w4 ⟨A4, c4, rfl, hc4, hC4, hb4⟩; have HC4 := Aside0.mk hC4; have HB4 := Aside0.mk (below_step HB3.out hb4); have HI4 := Aside0.mk (HI.out.below HB4.out); have hs1 := fun m => Kd.C_string (P := Try.prog) (src := 22) (dst := 9) (A := A4) (c := c4) Try.underlying22 Try.underlying5 Try.underlying9 (Kd.C_drewN hC4 m); have hs2 := fun m => Kd.C_string (P := Try.prog) (src := 22) (dst := 9) (A := B) (c := d) Try.underlying22 Try.underlying5 Try.underlying9 (Kd.C_drewN HI4.out.hB m); clear hC4 hb4) | (go_at_call 11; refine (split_call (by first | exact HI4.out.hB | exact Kd.C_drewN HI4.out.hB _ | exact Kd.C_drewN (Kd.C_drewN HI4.out.hB _) _ | exact Kd.C_drewN (Kd.C_drewN (Kd.C_drewN HI4.out.hB _) _) _) hd S1.out).mono ?_; rintro e w5 ⟨A5, c5, A6, c6, rfl, hc5, hc6, hC5, hC6, hb5⟩; have HC5 := Aside0.mk hC5; have HC6 := Aside0.mk hC6; have HB5 := Aside0.mk (below_step (by first | exact HB4.out | exact pw_below_drewN HB4.out _ | exact pw_below_drewN (pw_below_drewN HB4.out _) _ | exact pw_below_drewN (pw_below_drewN (pw_below_drewN HB4.out _) _) _) hb5); clear hC5 hC6 hb5 hs1 hs2) | (go_at_call 15; refine (CE.out A5 A6 c5 c6 w5 HC5.out hc5 HC6.out hc6).mono ?_; rintro e w6 ⟨A7, c7, rfl, hc7, hC7, hb6⟩; have HC7 := Aside0.mk hC7; have HB6 := Aside0.mk (below_step HB5.out hb6); have HI6 := Aside0.mk (HI.out.below HB6.out); have hs3 := fun m => Kd.C_string (P := Try.prog) (src := 22) (dst := 9) (A := A7) (c := c7) Try.underlying22 Try.underlying5 Try.underlying9 (Kd.C_drewN hC7 m); have hs4 := fun m => Kd.C_string (P := Try.prog) (src := 22) (dst := 9) (A := B) (c := d) Try.underlying22 Try.underlying5 Try.underlying9 (Kd.C_drewN HI6.out.hB m); clear hC7 hb6) | (go_at_call 13; refine (num_call _ _).mono ?_; rintro e w8 ⟨rfl, ⟨m3, rfl⟩⟩))
            go_meet
            exact ⟨(by first | exact HB6.out | exact pw_below_drewN HB6.out _ | exact pw_below_drewN (pw_below_drewN HB6.out _) _ | exact pw_below_drewN (pw_below_drewN (pw_below_drewN HB6.out _) _) _)⟩
      · have g1 : decide ((b.length : Int) ≤ 9000) = false := by simp; omega
        go_wp2
        go_meet
        exact hcut2
    case rest =>
      have hcut3 := hcut
      obtain ⟨we, hwe⟩ : ∃ W, W = wc := ⟨_, rfl⟩
      subst hwe
      clear hcut hcut2
      have HXe := hcut3
      have HIe := Aside0.mk (HI.out.below HXe.out)
      obtain ⟨y0, y1, y2, y3⟩ := arr_cells HW.out
      replace y0 := pw_cell_below HXe.out y0
      replace y1 := pw_cell_below HXe.out y1
      replace y2 := pw_cell_below HXe.out y2
      replace y3 := pw_cell_below HXe.out y3
      have m0 := HI.out.hF0.2.1
      have m1 := HI.out.hF1.2.1
      have m2 := HI.out.hK0.2.1
      have m3 := HI.out.hK1.2.1
      have hEnd : ∀ W : World, Below Wb.heap.size Wb W → Below w.heap.size w W := fun W h => HwW.out.trans (h.mono HwW.out.size)
      have HEnd := Aside0.mk hEnd
      clear hEnd hcut3
      go_upto_if 160 with fail
      go_cut [] (fun wx => we = wx)
      case first =>
        go_wp2
        · try rw [Exit.noGoto_ret]
          go_ret
          exact ⟨rfl, HEnd.out _ HXe.out⟩
        · go_meet
          rfl
      case rest =>
        subst hcut
        by_cases hok : entryOk f0 k0 = true ∧ entryOk f1 k1 = true
        · as_aux_lemma =>
            obtain ⟨ok0, ok1⟩ := hok
            obtain ⟨j0, j1, j2⟩ := entryOk_iff.1 ok0
            obtain ⟨j3, j4, j5⟩ := entryOk_iff.1 ok1
            have CE0 := Aside0.mk (fun (W : World) (h : Kd.C (Kd.int .u8) W F0 f0.length f0) (h2 : Kd.C (Kd.int .u8) W K0 k0.length k0) => entry_call h HI.out.ha0 h2 HI.out.hb0)
            have CE1 := Aside0.mk (fun (W : World) (h : Kd.C (Kd.int .u8) W F1 f1.length f1) (h2 : Kd.C (Kd.int .u8) W K1 k1.length k1) => entry_call h HI.out.ha1 h2 HI.out.hb1)
            rw [if_pos ok0, if_pos ok0] at CE0
            rw [if_pos ok1, if_pos ok1] at CE1
            have hxb := entryB_byt HI.out.yf0 HI.out.yk0
            have hyb := entryB_byt HI.out.yf1 HI.out.yk1
            have hxl := entryB_len f0 k0
            have hfb := frontB_byt HI.out.yf1
            have hL4 := lexC_entry f0 f1 k0 k1 HI.out.yf0 HI.out.yf1
            have hbf := begins_facts (k := k0) HI.out.yf0 HI.out.yf1
            have hsp : row_Split.f (entryB f0 k0) = some (f0, k0, 0) := split_some hxb (by omega) (by have := splitGo_entry k0 j1 j2 f0 [] (by simpa using j0); simpa using this)
            have CL1 := Aside0.mk (fun (W : World) (h : Kd.C (Kd.int .u8) W F0 f0.length f0) (h2 : Kd.C (Kd.int .u8) W F1 f1.length f1) => less_call h HI.out.ha0 h2 HI.out.ha1 HI.out.yf0 HI.out.yf1)
            have CL2 := Aside0.mk (fun (W : World) (h : Kd.C (Kd.int .u8) W K0 k0.length k0) (h2 : Kd.C (Kd.int .u8) W K1 k1.length k1) => less_call h HI.out.hb0 h2 HI.out.hb1 HI.out.yk0 HI.out.yk1)
            have CF := Aside0.mk (fun (W : World) (h : Kd.C (Kd.int .u8) W F1 f1.length f1) => front_call h HI.out.ha1 j3)
            obtain ⟨x, hx⟩ : ∃ x, x = entryB f0 k0 := ⟨_, rfl⟩
            obtain ⟨y, hy⟩ : ∃ y, y = entryB f1 k1 := ⟨_, rfl⟩
            obtain ⟨fr, hfr⟩ : ∃ fr, fr = frontB f1 := ⟨_, rfl⟩
            rw [← hx] at CE0 hxb hxl hsp hL4 hbf
            rw [← hy] at CE1 hyb hL4
            rw [← hfr] at CF hfb hbf
            have CL3 := Aside0.mk (fun (A : Option Addr) (c : Nat) (B : Option Addr) (d : Nat) (W : World) (h : Kd.C (Kd.int .u8) W A x.length x) (h1 : x.length ≤ c) (h2 : Kd.C (Kd.int .u8) W B fr.length fr) (h3 : fr.length ≤ d) => less_call h h1 h2 h3 hxb hfb)
            have CL4 := Aside0.mk (fun (A : Option Addr) (c : Nat) (B : Option Addr) (d : Nat) (W : World) (h : Kd.C (Kd.int .u8) W A x.length x) (h1 : x.length ≤ c) (h2 : Kd.C (Kd.int .u8) W B y.length y) (h3 : y.length ≤ d) => less_call h h1 h2 h3 hxb hyb)
            obtain ⟨l1, hl1⟩ : ∃ l1, l1 = lexC f0 f1 := ⟨_, rfl⟩
            obtain ⟨l2, hl2⟩ : ∃ l2, l2 = lexC k0 k1 := ⟨_, rfl⟩
            obtain ⟨l3, hl3⟩ : ∃ l3, l3 = lexC x fr := ⟨_, rfl⟩
            obtain ⟨l4, hl4⟩ : ∃ l4, l4 = lexC x y := ⟨_, rfl⟩
            rw [← hl1] at CL1 hL4 hbf
            rw [← hl2] at CL2 hL4
            rw [← hl3] at CL3 hbf
            rw [← hl4] at CL4 hL4
            obtain ⟨bg, hbg⟩ : ∃ bg, bg = beginsB f0 f1 := ⟨_, rfl⟩
            rw [← hbg] at hbf
            have HBG := Aside0.mk hbg
            have HBF := Aside0.mk hbf
            have HL4 := Aside0.mk hL4
            have HSP := Aside0.mk hsp
            clear ok0 ok1 hxb hyb hfb hL4 hbf hsp hx hy hfr hl1 hl2 hl3 hl4 hbg m0 m1 m2 m3
            go_upto_if 189 with (first | (go_at_call 15; (with_reducible refine (CE0.out _ HIe.out.hF0 HIe.out.hK0).mono ?_); rintro e w3 ⟨A3, c3, rfl, hc3, hC3, hb3⟩; have HC3 := Aside0.mk hC3; have HB3 := Aside0.mk (below_step HXe.out hb3); have HI3 := Aside0.mk (HIe.out.below hb3); have HB03 := Aside0.mk hb3; have z0 := pw_cell_below hb3 y0; have z1 := pw_cell_below hb3 y1; have z2 := pw_cell_below hb3 y2; have z3 := pw_cell_below hb3 y3; clear hC3 hb3) | (go_at_call 15; (with_reducible refine (CE1.out _ HI3.out.hF1 HI3.out.hK1).mono ?_); rintro e w4 ⟨A4, c4, rfl, hc4, hC4, hb4⟩; have HC4 := Aside0.mk hC4; have HB4 := Aside0.mk (below_step HB3.out hb4); have HI4 := Aside0.mk (HI3.out.below hb4); have HC34 := Aside0.mk (Kd.C_below HC3.out hb4); have u0 := pw_cell_below hb4 z0; have u1 := pw_cell_below hb4 z1; have u2 := pw_cell_below hb4 z2; have u3 := pw_cell_below hb4 z3; clear hC4 hb4) | (go_at_call 13; refine (num_call _ _).mono ?_; rintro e w8 ⟨rfl, ⟨m3, rfl⟩⟩) | (go_at_call 35; (with_reducible refine (CL1.out _ (by first | exact HI4.out.hF0 | exact Kd.C_drewN HI4.out.hF0 _ | exact Kd.C_drewN (Kd.C_drewN HI4.out.hF0 _) _ | exact Kd.C_drewN (Kd.C_drewN (Kd.C_drewN HI4.out.hF0 _) _) _) (by first | exact HI4.out.hF1 | exact Kd.C_drewN HI4.out.hF1 _ | exact Kd.C_drewN (Kd.C_drewN HI4.out.hF1 _) _ | exact Kd.C_drewN (Kd.C_drewN (Kd.C_drewN HI4.out.hF1 _) _) _)).mono ?_); rintro e w8 ⟨rfl, ⟨m4, rfl⟩⟩))
            clear y0 y1 y2 y3 z0 z1 z2 z3
            go_cut [30] (fun s30 wx => s30 = .int .i64 l4 ∧ Aside0 (∃ nd, wx = w4.drewN nd))
            case first =>
              by_cases h0 : l1 = 0
              · have g1 : (l1 == 0) = true := beq_iff_eq.mpr h0
                have hl : l4 = l2 := by rw [HL4.out, if_pos h0]
                have HL := Aside0.mk hl
                clear h0 hl
                go_wp2_with (first | (go_at_call 35; (with_reducible refine (CL2.out _ (by first | exact HI4.out.hK0 | exact Kd.C_drewN HI4.out.hK0 _ | exact Kd.C_drewN (Kd.C_drewN HI4.out.hK0 _) _ | exact Kd.C_drewN (Kd.C_drewN (Kd.C_drewN HI4.out.hK0 _) _) _) (by first | exact HI4.out.hK1 | exact Kd.C_drewN HI4.out.hK1 _ | exact Kd.C_drewN (Kd.C_drewN HI4.out.hK1 _) _ | exact Kd.C_drewN (Kd.C_drewN (Kd.C_drewN HI4.out.hK1 _) _) _)).mono ?_); rintro e w8 ⟨rfl, ⟨m5, rfl⟩⟩))
                go_meet
                exact ⟨by rw [HL.out], ⟨⟨_, rfl⟩⟩⟩
              · have g1 : (l1 == 0) = false := beq_eq_false_iff_ne.mpr h0
                have hl : l4 = l1 := by rw [HL4.out, if_neg h0]
                have HL := Aside0.mk hl
                clear h0 hl
                go_wp2
                go_meet
                exact ⟨by rw [HL.out], ⟨⟨_, rfl⟩⟩⟩
            case rest =>
              as_aux_lemma =>
                obtain ⟨rfl, hdr⟩ := hcut
                obtain ⟨nd, hdd⟩ := hdr.out
                subst hdd
                clear hdr
                go_upto_region 32 with (first | (go_at_call 14; (with_reducible refine (CF.out _ (by first | exact HI4.out.hF1 | exact Kd.C_drewN HI4.out.hF1 _ | exact Kd.C_drewN (Kd.C_drewN HI4.out.hF1 _) _ | exact Kd.C_drewN (Kd.C_drewN (Kd.C_drewN HI4.out.hF1 _) _) _)).mono ?_); rintro e w5 ⟨A5, c5, rfl, hc5, hC5, hb5⟩; have HC5 := Aside0.mk hC5; have hb45 : Below w4.heap.size w4 w5 := below_step (by first | exact (Below.refl _ _) | exact pw_below_drewN (Below.refl _ _) _ | exact pw_below_drewN (pw_below_drewN (Below.refl _ _) _) _ | exact pw_below_drewN (pw_below_drewN (pw_below_drewN (Below.refl _ _) _) _) _) hb5; have HB45 := Aside0.mk hb45; have HC35 := Aside0.mk (Kd.C_below HC34.out hb45); clear hC5 hb5 hb45) | (go_at_call 11; refine (split_call HC35.out hc3 HSP.out).mono ?_; rintro e w6 ⟨A6, c6, A7, c7, rfl, hc6, hc7, hC6, hC7, hb6⟩; have HC6 := Aside0.mk hC6; have HC7 := Aside0.mk hC7; have hb46 : Below w4.heap.size w4 w6 := below_step HB45.out hb6; have HB6 := Aside0.mk (below_step HB4.out hb46); have HC46 := Aside0.mk (Kd.C_below HC4.out hb46); have HC36 := Aside0.mk (Kd.C_below HC35.out hb6); have HC56 := Aside0.mk (Kd.C_below HC5.out hb6); have HI6 := Aside0.mk (HI4.out.below hb46); have y0 := pw_cell_below hb46 u0; have y1 := pw_cell_below hb46 u1; have y2 := pw_cell_below hb46 u2; have y3 := pw_cell_below hb46 u3; clear hC6 hC7 hb6 hb46))
                clear u0 u1 u2 u3
                go_cut [36] (fun s36 wx => s36 = .bool bg ∧ Aside0 (∃ nd, wx = w6.drewN nd))
                case first =>
                  by_cases hlen : f1.length ≤ f0.length
                  · obtain ⟨i5, hi5, hs5⟩ : ∃ ie, Try.prog.info? 5 = some ie ∧ ie.size = 1 := by
                      have h : (Try.prog.info? 5).map (fun i => i.size) = some 1 := by kernel_rfl
                      obtain ⟨ie, h1, h2⟩ := Option.map_eq_some_iff.mp h
                      exact ⟨ie, h1, h2⟩
                    have hcu := cut_to (P := Try.prog) 22 5 .i64 Try.underlying22 hi5 F0 f0.length a0 (f1.length : Int) (by omega) (by omega) HI.out.ha0
                    simp only [Int.toNat_natCast] at hcu
                    have hC5 := Kd.C_take (m := f1.length) HI6.out.hF0 hlen
                    have htl : (f0.take f1.length).length = f1.length := by rw [List.length_take]; omega
                    rw [htl] at hC5
                    have hs1 := fun m => Kd.C_string (P := Try.prog) (src := 22) (dst := 9) (A := F0) (c := a0) Try.underlying22 Try.underlying5 Try.underlying9 (Kd.C_drewN hC5 m)
                    have hs2 := fun m => Kd.C_string (P := Try.prog) (src := 22) (dst := 9) (A := F1) (c := a1) Try.underlying22 Try.underlying5 Try.underlying9 (Kd.C_drewN HI6.out.hF1 m)
                    have hs10 := Kd.C_string (P := Try.prog) (src := 22) (dst := 9) (A := F0) (c := a0) Try.underlying22 Try.underlying5 Try.underlying9 hC5
                    have hs20 := Kd.C_string (P := Try.prog) (src := 22) (dst := 9) (A := F1) (c := a1) Try.underlying22 Try.underlying5 Try.underlying9 HI6.out.hF1
                    have g1 : decide ((f1.length : Int) ≤ (f0.length : Int)) = true := decide_eq_true (by omega)
                    have g1n : decide (f1.length ≤ f0.length) = true := decide_eq_true hlen
                    have g2 : ((strOfNums (f0.take f1.length)).toList == (strOfNums f1).toList) = bg := by
                      rw [HBG.out]
                      unfold beginsB txt
                      rw [decide_eq_true hlen, Bool.true_and]
                      by_cases h : (strOfNums (f0.take f1.length)).toList = (strOfNums f1).toList
                      · rw [decide_eq_true h, beq_iff_eq]; exact h
                      · rw [decide_eq_false h, beq_eq_false_iff_ne]; exact h
                    clear hC5 htl hi5 hs5 hlen
                    go_wp2
                    repeat (go_quiet (fail); try go_wp2)
                    go_meet
                    exact ⟨rfl, ⟨⟨_, rfl⟩⟩⟩
                  · have g1 : decide ((f1.length : Int) ≤ (f0.length : Int)) = false := decide_eq_false (by omega)
                    have g1n : decide (f1.length ≤ f0.length) = false := decide_eq_false hlen
                    have g2 : bg = false := by
                      rw [HBG.out]
                      unfold beginsB
                      rw [decide_eq_false hlen, Bool.false_and]
                    have G2 := Aside0.mk g2
                    clear g2 hlen
                    go_wp2
                    repeat (go_quiet (fail); try go_wp2)
                    go_meet
                    exact ⟨by rw [G2.out], ⟨⟨_, rfl⟩⟩⟩
                case rest =>
                  as_aux_lemma =>
                    obtain ⟨rfl, hdr⟩ := hcut
                    obtain ⟨nd2, hdd⟩ := hdr.out
                    subst hdd
                    clear hdr
                    go_upto_region 33 with fail
                    go_cut [251] (fun s251 wx => s251 = .bool false ∧ Aside0 (∃ nd, wx = w6.drewN nd))
                    case first =>
                      cases bg with
                      | true =>
                        have g1 : decide (l3 < 0) = false := decide_eq_false (by have := HBF.out.1 rfl; omega)
                        have g2 : ¬ l3 < 0 := by have := HBF.out.1 rfl; omega
                        go_wp2_with (first | (go_at_call 35; (with_reducible refine (CL3.out A3 c3 A5 c5 _ (by first | exact HC36.out | exact Kd.C_drewN HC36.out _ | exact Kd.C_drewN (Kd.C_drewN HC36.out _) _ | exact Kd.C_drewN (Kd.C_drewN (Kd.C_drewN HC36.out _) _) _) hc3 (by first | exact HC56.out | exact Kd.C_drewN HC56.out _ | exact Kd.C_drewN (Kd.C_drewN HC56.out _) _ | exact Kd.C_drewN (Kd.C_drewN (Kd.C_drewN HC56.out _) _) _) hc5).mono ?_); rintro e w8 ⟨rfl, ⟨m5, rfl⟩⟩) | (go_at_call 35; (with_reducible refine (CL1.out _ (by first | exact HI6.out.hF0 | exact Kd.C_drewN HI6.out.hF0 _ | exact Kd.C_drewN (Kd.C_drewN HI6.out.hF0 _) _ | exact Kd.C_drewN (Kd.C_drewN (Kd.C_drewN HI6.out.hF0 _) _) _) (by first | exact HI6.out.hF1 | exact Kd.C_drewN HI6.out.hF1 _ | exact Kd.C_drewN (Kd.C_drewN HI6.out.hF1 _) _ | exact Kd.C_drewN (Kd.C_drewN (Kd.C_drewN HI6.out.hF1 _) _) _)).mono ?_); rintro e w8 ⟨rfl, ⟨m6, rfl⟩⟩))
                        go_meet
                        exact ⟨rfl, ⟨⟨_, rfl⟩⟩⟩
                      | false =>
                        by_cases h1 : l1 < 0
                        · have g1 : decide (l1 < 0) = true := decide_eq_true h1
                          have g2 : decide (0 ≤ l3) = false := decide_eq_false (by have := HBF.out.2 h1; omega)
                          have g3 : ¬ 0 ≤ l3 := by have := HBF.out.2 h1; omega
                          go_wp2_with (first | (go_at_call 35; (with_reducible refine (CL3.out A3 c3 A5 c5 _ (by first | exact HC36.out | exact Kd.C_drewN HC36.out _ | exact Kd.C_drewN (Kd.C_drewN HC36.out _) _ | exact Kd.C_drewN (Kd.C_drewN (Kd.C_drewN HC36.out _) _) _) hc3 (by first | exact HC56.out | exact Kd.C_drewN HC56.out _ | exact Kd.C_drewN (Kd.C_drewN HC56.out _) _ | exact Kd.C_drewN (Kd.C_drewN (Kd.C_drewN HC56.out _) _) _) hc5).mono ?_); rintro e w8 ⟨rfl, ⟨m5, rfl⟩⟩) | (go_at_call 35; (with_reducible refine (CL1.out _ (by first | exact HI6.out.hF0 | exact Kd.C_drewN HI6.out.hF0 _ | exact Kd.C_drewN (Kd.C_drewN HI6.out.hF0 _) _ | exact Kd.C_drewN (Kd.C_drewN (Kd.C_drewN HI6.out.hF0 _) _) _) (by first | exact HI6.out.hF1 | exact Kd.C_drewN HI6.out.hF1 _ | exact Kd.C_drewN (Kd.C_drewN HI6.out.hF1 _) _ | exact Kd.C_drewN (Kd.C_drewN (Kd.C_drewN HI6.out.hF1 _) _) _)).mono ?_); rintro e w8 ⟨rfl, ⟨m6, rfl⟩⟩))
                          go_meet
                          exact ⟨rfl, ⟨⟨_, rfl⟩⟩⟩
                        · have g1 : decide (l1 < 0) = false := decide_eq_false h1
                          go_wp2_with (first | (go_at_call 35; (with_reducible refine (CL3.out A3 c3 A5 c5 _ (by first | exact HC36.out | exact Kd.C_drewN HC36.out _ | exact Kd.C_drewN (Kd.C_drewN HC36.out _) _ | exact Kd.C_drewN (Kd.C_drewN (Kd.C_drewN HC36.out _) _) _) hc3 (by first | exact HC56.out | exact Kd.C_drewN HC56.out _ | exact Kd.C_drewN (Kd.C_drewN HC56.out _) _ | exact Kd.C_drewN (Kd.C_drewN (Kd.C_drewN HC56.out _) _) _) hc5).mono ?_); rintro e w8 ⟨rfl, ⟨m5, rfl⟩⟩) | (go_at_call 35; (with_reducible refine (CL1.out _ (by first | exact HI6.out.hF0 | exact Kd.C_drewN HI6.out.hF0 _ | exact Kd.C_drewN (Kd.C_drewN HI6.out.hF0 _) _ | exact Kd.C_drewN (Kd.C_drewN (Kd.C_drewN HI6.out.hF0 _) _) _) (by first | exact HI6.out.hF1 | exact Kd.C_drewN HI6.out.hF1 _ | exact Kd.C_drewN (Kd.C_drewN HI6.out.hF1 _) _ | exact Kd.C_drewN (Kd.C_drewN (Kd.C_drewN HI6.out.hF1 _) _) _)).mono ?_); rintro e w8 ⟨rfl, ⟨m6, rfl⟩⟩))
                          go_meet
                          exact ⟨rfl, ⟨⟨_, rfl⟩⟩⟩
                    case rest =>
                      as_aux_lemma =>
                        obtain ⟨rfl, hdr⟩ := hcut
                        obtain ⟨nd3, hdd⟩ := hdr.out
                        subst hdd
                        clear hdr
                        have hs1 := fun m => Kd.C_string (P := Try.prog) (src := 22) (dst := 9) (A := A6) (c := c6) Try.underlying22 Try.underlying5 Try.underlying9 (Kd.C_drewN HC6.out m)
                        have hs2 := fun m => Kd.C_string (P := Try.prog) (src := 22) (dst := 9) (A := F0) (c := a0) Try.underlying22 Try.underlying5 Try.underlying9 (Kd.C_drewN HI6.out.hF0 m)
                        have hs3 := fun m => Kd.C_string (P := Try.prog) (src := 22) (dst := 9) (A := A7) (c := c7) Try.underlying22 Try.underlying5 Try.underlying9 (Kd.C_drewN HC7.out m)
                        have hs4 := fun m => Kd.C_string (P := Try.prog) (src := 22) (dst := 9) (A := K0) (c := b0) Try.underlying22 Try.underlying5 Try.underlying9 (Kd.C_drewN HI6.out.hK0 m)
                        go_wp2_with (first | (go_at_call 13; refine (num_call _ _).mono ?_; rintro e w8 ⟨rfl, ⟨m3, rfl⟩⟩) | (go_at_call 35; (with_reducible refine (CL4.out A3 c3 A4 c4 _ (by first | exact HC36.out | exact Kd.C_drewN HC36.out _ | exact Kd.C_drewN (Kd.C_drewN HC36.out _) _ | exact Kd.C_drewN (Kd.C_drewN (Kd.C_drewN HC36.out _) _) _) hc3 (by first | exact HC46.out | exact Kd.C_drewN HC46.out _ | exact Kd.C_drewN (Kd.C_drewN HC46.out _) _ | exact Kd.C_drewN (Kd.C_drewN (Kd.C_drewN HC46.out _) _) _) hc4).mono ?_); rintro e w8 ⟨rfl, ⟨m7, rfl⟩⟩))
                        go_ret
                        exact ⟨by simp, HEnd.out _ (by first | exact HB6.out | exact pw_below_drewN HB6.out _ | exact pw_below_drewN (pw_below_drewN HB6.out _) _ | exact pw_below_drewN (pw_below_drewN (pw_below_drewN HB6.out _) _) _)⟩
        · obtain ⟨e0, e1, h1, h2, h3⟩ := ok_err hok
          have CE0 := Aside0.mk (fun (W : World) (h : Kd.C (Kd.int .u8) W F0 f0.length f0) (h2 : Kd.C (Kd.int .u8) W K0 k0.length k0) => entry_call h HI.out.ha0 h2 HI.out.hb0)
          have CE1 := Aside0.mk (fun (W : World) (h : Kd.C (Kd.int .u8) W F1 f1.length f1) (h2 : Kd.C (Kd.int .u8) W K1 k1.length k1) => entry_call h HI.out.ha1 h2 HI.out.hb1)
          rw [h1] at CE0
          rw [h2] at CE1
          obtain ⟨x0, hx0⟩ : ∃ x, x = (if entryOk f0 k0 = true then entryB f0 k0 else []) := ⟨_, rfl⟩
          obtain ⟨x1, hx1⟩ : ∃ x, x = (if entryOk f1 k1 = true then entryB f1 k1 else []) := ⟨_, rfl⟩
          rw [← hx0] at CE0
          rw [← hx1] at CE1
          clear h1 h2 hx0 hx1 hok m0 m1 m2 m3
          rcases h3 with ⟨rfl, rfl⟩ | ⟨rfl, rfl⟩ | ⟨rfl, rfl⟩
          all_goals
            as_aux_lemma =>
              go_wp2_with (first | (go_at_call 15; (with_reducible refine (CE0.out _ HIe.out.hF0 HIe.out.hK0).mono ?_); rintro e w3 ⟨A3, c3, rfl, hc3, hC3, hb3⟩; have HC3 := Aside0.mk hC3; have HB3 := Aside0.mk (below_step HXe.out hb3); have HI3 := Aside0.mk (HIe.out.below hb3); have HB03 := Aside0.mk hb3; have z0 := pw_cell_below hb3 y0; have z1 := pw_cell_below hb3 y1; have z2 := pw_cell_below hb3 y2; have z3 := pw_cell_below hb3 y3; clear hC3 hb3) | (go_at_call 15; (with_reducible refine (CE1.out _ HI3.out.hF1 HI3.out.hK1).mono ?_); rintro e w4 ⟨A4, c4, rfl, hc4, hC4, hb4⟩; have HC4 := Aside0.mk hC4; have HB4 := Aside0.mk (below_step HB3.out hb4); have HI4 := Aside0.mk (HI3.out.below hb4); have HC34 := Aside0.mk (Kd.C_below HC3.out hb4); have u0 := pw_cell_below hb4 z0; have u1 := pw_cell_below hb4 z1; have u2 := pw_cell_below hb4 z2; have u3 := pw_cell_below hb4 z3; clear hC4 hb4) | (go_at_call 13; refine (num_call _ _).mono ?_; rintro e w8 ⟨rfl, ⟨m3, rfl⟩⟩))
              try rw [Exit.noGoto_ret]
              go_ret
              exact ⟨rfl, HEnd.out _ (by first | exact HB4.out | exact pw_below_drewN HB4.out _ | exact pw_below_drewN (pw_below_drewN HB4.out _) _ | exact pw_below_drewN (pw_below_drewN (pw_below_drewN HB4.out _) _) _)⟩
end Go.Proofs.Ytmpbcmnnlkienaa.Of
