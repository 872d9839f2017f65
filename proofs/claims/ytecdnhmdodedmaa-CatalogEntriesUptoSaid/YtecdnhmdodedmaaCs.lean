/- The law CatalogEntries' call. -/
import Derived.Test.YtecdnhmdodedmaaCr
import Derived.Test.YtecdnhmdodedmaaOpu
namespace Go.Proofs.Ytecdnhmdodedmaa.Ch
open Go.RowKit Go.Proofs.YtecdnhmdodedmaaW.PrintWords Go.Proofs.YtecdnhmdodedmaaW.PrintLast Go.Proofs.YtecdnhmdodedmaaW.PrintMore Go.Proofs.Ytecdnhmdodedmaa.HS Go.Proofs.Ytecdnhmdodedmaa.Ca Go.Proofs.Ytecdnhmdodedmaa.It
set_option linter.unusedVariables false
set_option linter.unusedSimpArgs false
theorem len_le {α : Type} {b : α → Nat} : ∀ (l : List (List α)), l.length ≤ Opn.sumOf (Opn.bkL b) l
  | [] => by simp
  | x :: l => by
    have := len_le (b := b) l
    rw [Opn.sumOf_cons, List.length_cons]
    have h : 1 ≤ Opn.bkL b x := by unfold Opn.bkL; omega
    omega
theorem rows_le (l : List (List Int)) (h : Opn.bkL (Opn.bkL Opn.bk1) l ≤ 1048576) : l.length ≤ 1048576 ∧ ∀ f ∈ l, f.length ≤ 1048576 := by
  have h1 := len_le (b := Opn.bk1) l
  have e : Opn.bkL (Opn.bkL Opn.bk1) l = Opn.sumOf (Opn.bkL Opn.bk1) l + 1 := rfl
  refine ⟨by omega, fun f hf => ?_⟩
  have h2 := Opn.le_sumOf (b := Opn.bkL Opn.bk1) hf
  have h3 : Opn.bkL Opn.bk1 f = f.length + 1 := congrArg (· + 1) (Opn.sumOf_length f)
  omega
theorem drop_rdL (r : List (List Int)) (i : Nat) (h : i < r.length) : r.drop i = rd_L2 r (i : Int) :: r.drop (i + 1) := by
  rw [List.drop_eq_getElem_cons h]
  simp [rd_L2, List.getD, h]
theorem size_l0 (r : List (List Int)) (hr : r.length ≤ 1048576) : ∀ (n i K : Nat) (x : Int), i + n = r.length → n + 1 ≤ K → ∃ v, garnerref13_Size.l0 K r x (i : Int) = some v
  | _, _, 0, _, _, h => by omega
  | 0, i, K + 1, x, h, _ => ⟨x, by rw [garnerref13_Size.l0, if_neg (by omega)]⟩
  | n + 1, i, K + 1, x, h, hK => by
    rw [garnerref13_Size.l0, if_pos (by omega)]
    by_cases hx : x < 1048576
    · rw [if_pos hx, if_pos (by omega), step64 i _ (show i < r.length by omega) hr]
      exact size_l0 r hr n (i + 1) K _ (by omega) (by omega)
    · rw [if_neg hx]; exact ⟨x, rfl⟩
theorem size_call (A : Option Addr) (c : Nat) (r : List (List Int)) (hr : r.length ≤ 1048576) : ∃ v : Int, ∀ (w : World), Kd.C (Kd.slice 5 (Kd.int .u8)) w A r.length r → r.length ≤ c → Calls Try.prog 18 #[.slice A r.length c] w fun e w' => e = .returned (.int .i64 v) ∧ Below w.heap.size w w' := by
  obtain ⟨v, hv⟩ := size_l0 r hr r.length 0 (r.length + 1) (r.length : Int) (by omega) (by omega)
  exact ⟨v, fun w h1 h2 => garnerref13_Size.calls (r.length + 1) A c r v w h1 h2 hv⟩
theorem copy_l0 (r : List (List Int)) (hr : r.length ≤ 1048576) (hf : ∀ f ∈ r, f.length ≤ 1048576) : ∀ (n i K : Nat) (acc : List (List Int)), i + n = r.length → acc.length ≤ i → n + 1 ≤ K → garnerref13_Copy.l0 K r acc (i : Int) = some (acc ++ r.drop i)
  | _, _, 0, _, _, _, h => by omega
  | 0, i, K + 1, acc, h, _, _ => by rw [garnerref13_Copy.l0, if_neg (by omega), List.drop_eq_nil_of_le (by omega), List.append_nil]
  | n + 1, i, K + 1, acc, h, h2, hK => by
    have := hf _ (rd_L2_mem r i (by omega))
    rw [garnerref13_Copy.l0, if_pos (by omega), if_pos (by omega), if_pos (by simp only [List.length_nil]; omega), if_pos (by omega), step64 i _ (show i < r.length by omega) hr, copy_l0 r hr hf n (i + 1) K _ (by omega) (by rw [List.length_append]; simp; omega) (by omega), drop_rdL r i (by omega)]
    simp
theorem copy_call (A : Option Addr) (c : Nat) (r : List (List Int)) (hr : r.length ≤ 1048576) (hf : ∀ f ∈ r, f.length ≤ 1048576) (w : World) (h1 : Kd.C (Kd.slice 5 (Kd.int .u8)) w A r.length r) (h2 : r.length ≤ c) : Calls Try.prog 19 #[.slice A r.length c] w fun e w' => ∃ B d, e = .returned (.slice B r.length d) ∧ r.length ≤ d ∧ Kd.C (Kd.slice 5 (Kd.int .u8)) w' B r.length r ∧ Below w.heap.size w w' :=
  (garnerref13_Copy.calls (r.length + 1) A c r r w h1 h2 (by have := copy_l0 r hr hf r.length 0 (r.length + 1) [] (by omega) (by simp) (by omega); rwa [List.drop_zero, List.nil_append] at this)).mono fun e w' ⟨v, he, hS, hb⟩ => by
    obtain ⟨B, d, hv, hl, hC⟩ := Kd.R_reads (Kd.S_R hS)
    exact ⟨B, d, by rw [he, hv], hl, hC, hb⟩
theorem same_l0 (r : List (List Int)) (hr : r.length ≤ 1048576) : ∀ (n i K : Nat), i + n = r.length → n + 1 ≤ K → garnerref13_Same.l0 K r r (i : Int) = some true
  | _, _, 0, _, h => by omega
  | 0, i, K + 1, h, _ => by rw [garnerref13_Same.l0, if_neg (by omega)]
  | n + 1, i, K + 1, h, hK => by
    rw [garnerref13_Same.l0, if_pos (by omega), if_pos (by omega), if_pos (by omega), if_pos rfl, step64 i _ (show i < r.length by omega) hr, same_l0 r hr n (i + 1) K (by omega) (by omega)]
theorem sameRow_call (A B : Option Addr) (c d : Nat) (r : List (List Int)) (hr : r.length ≤ 1048576) (w : World) (h1 : Kd.C (Kd.slice 5 (Kd.int .u8)) w A r.length r) (h2 : r.length ≤ c) (h3 : Kd.C (Kd.slice 5 (Kd.int .u8)) w B r.length r) (h4 : r.length ≤ d) : Calls Try.prog 25 #[.slice A r.length c, .slice B r.length d] w fun e w' => e = .returned (.bool true) ∧ Drawn0 w w' :=
  garnerref13_Same.calls (r.length + 1) A c r B d r true w h1 h2 h3 h4 (by unfold garnerref13_Same.f; rw [if_pos rfl]; exact same_l0 r hr r.length 0 _ (by omega) (by omega))
theorem sameE_l0 (r : List S62) (hr : r.length ≤ 1048576) : ∀ (n i K : Nat), i + n = r.length → n + 1 ≤ K → garnerref16_SameEntries.l0 K r r (i : Int) = some true
  | _, _, 0, _, h => by omega
  | 0, i, K + 1, h, _ => by rw [garnerref16_SameEntries.l0, if_neg (by omega)]
  | n + 1, i, K + 1, h, hK => by
    rw [garnerref16_SameEntries.l0, if_pos (by omega), if_pos (by omega), if_pos (by omega), if_pos rfl, if_pos rfl, step64 i _ (show i < r.length by omega) hr, sameE_l0 r hr n (i + 1) K (by omega) (by omega)]
theorem sameEnt_call (A B : Option Addr) (c d : Nat) (r : List S62) (hr : r.length ≤ 1048576) (w : World) (h1 : Kd.C k62 w A r.length r) (h2 : r.length ≤ c) (h3 : Kd.C k62 w B r.length r) (h4 : r.length ≤ d) : Calls Try.prog 24 #[.slice A r.length c, .slice B r.length d] w fun e w' => e = .returned (.bool true) ∧ Drawn0 w w' :=
  same_call (r.length + 1) A B c d r r true (by unfold garnerref16_SameEntries.f; rw [if_pos rfl]; exact sameE_l0 r hr r.length 0 _ (by omega) (by omega)) w h1 h2 h3 h4
theorem changesL_len (j : Job) (t : Int) (key : List Int) (r r2 : List (List Int)) : (changesL j t key r r2).1.length ≤ 1048576 ∧ (changesL j t key r r2).2.1.length ≤ 1048576 := by
  unfold changesL
  have h1 := entriesL_len j t key r
  have h2 := entriesL_len j t key r2
  split
  · exact ⟨Nat.le_trans (withoutL_len _ _) h1, Nat.le_trans (withoutL_len _ _) h2⟩
  · simp
set_option maxHeartbeats 16000000 in
set_option maxRecDepth 100000 in
theorem entries_walk (j : Job) (A : Option Addr) (n : Nat) (t : Int) (B : Option Addr) (d : Nat) (key : List Int) (D : Option Addr) (m : Nat) (r : List (List Int)) (D2 : Option Addr) (m2 : Nat) (r2 : List (List Int)) (w : World) (hj : j.In w A n) (hts : j.ts.length ≤ 1048576) (hkey : key.length ≤ 1048576)
    (hr : r.length ≤ 1048576) (hr' : ∀ f ∈ r, f.length ≤ 1048576) (hq : r2.length ≤ 1048576) (hq' : ∀ f ∈ r2, f.length ≤ 1048576)
    (hB : Kd.C (Kd.int .u8) w B key.length key) (hd : key.length ≤ d) (hD : Kd.C (Kd.slice 5 (Kd.int .u8)) w D r.length r) (hm : r.length ≤ m) (hD2 : Kd.C (Kd.slice 5 (Kd.int .u8)) w D2 r2.length r2) (hm2 : r2.length ≤ m2) :
    Calls Try.prog 4 #[.agg (j.v A n), .int .i64 t, .slice B key.length d, .slice D r.length m, .slice D2 r2.length m2] w (TrueP w) := by
  have hb := below_alloc (Below.refl w.heap.size w) (.cells (j.v A n) 24)
  have hblk := blk_new w (.cells (j.v A n) 24)
  have J_1 := Aside0.mk (JobAt.mk hblk (hj.below hb))
  have K_1 := Aside0.mk (Kd.C_below hB hb)
  have R_1 := Aside0.mk (Kd.C_below hD hb)
  have Q_1 := Aside0.mk (Kd.C_below hD2 hb)
  have B_1 := Aside0.mk hb
  obtain ⟨s1, hs1⟩ := size_call D m r hr
  obtain ⟨s2, hs2⟩ := size_call D2 m2 r2 hq
  have S1 := Aside0.mk hs1
  have S2 := Aside0.mk hs2
  have CP1 := Aside0.mk (copy_call D m r hr hr')
  have CP2 := Aside0.mk (copy_call D2 m2 r2 hq hq')
  obtain ⟨a, ha⟩ : ∃ a, a = entriesL j t key r := ⟨_, rfl⟩
  obtain ⟨g, hg⟩ : ∃ a, a = changesL j t key r r2 := ⟨_, rfl⟩
  have la := entriesL_len j t key r
  have lg := changesL_len j t key r r2
  have CE := Aside0.mk (fun (D : Option Addr) (m : Nat) (W : World) (h : j.In W A n) (h1 : Kd.C (Kd.int .u8) W B key.length key) (h3 : Kd.C (Kd.slice 5 (Kd.int .u8)) W D r.length r) (h4 : r.length ≤ m) => entries_call j A n t B d key D m r W h h1 hd h3 h4)
  have CR := Aside0.mk (fun (D : Option Addr) (m : Nat) (W : World) (h : j.In W A n) (h1 : Kd.C (Kd.int .u8) W B key.length key) (h3 : Kd.C (Kd.slice 5 (Kd.int .u8)) W D r.length r) (h4 : r.length ≤ m) => refEntries_call j A n t B d key D m r W h hts hkey hr h1 hd h3 h4)
  have CC := Aside0.mk (fun (D D2 : Option Addr) (m m2 : Nat) (W : World) (h : j.In W A n) (h1 : Kd.C (Kd.int .u8) W B key.length key) (h3 : Kd.C (Kd.slice 5 (Kd.int .u8)) W D r.length r) (h4 : r.length ≤ m) (h5 : Kd.C (Kd.slice 5 (Kd.int .u8)) W D2 r2.length r2) (h6 : r2.length ≤ m2) => changes_call j A n t B d key D m r D2 m2 r2 W h h1 hd h3 h4 h5 h6)
  have CQ := Aside0.mk (fun (D D2 : Option Addr) (m m2 : Nat) (W : World) (h : j.In W A n) (h1 : Kd.C (Kd.int .u8) W B key.length key) (h3 : Kd.C (Kd.slice 5 (Kd.int .u8)) W D r.length r) (h4 : r.length ≤ m) (h5 : Kd.C (Kd.slice 5 (Kd.int .u8)) W D2 r2.length r2) (h6 : r2.length ≤ m2) => refChanges_call j A n t B d key D m r D2 m2 r2 W h hts hkey hr hq h1 hd h3 h4 h5 h6)
  rw [← ha] at CE CR la
  rw [← hg] at CC CQ lg
  have SE := Aside0.mk (fun (A B : Option Addr) (c d : Nat) => sameEnt_call A B c d a.1 la)
  have SG := Aside0.mk (fun (A B : Option Addr) (c d : Nat) => sameEnt_call A B c d g.1 lg.1)
  have SD := Aside0.mk (fun (A B : Option Addr) (c d : Nat) => sameEnt_call A B c d g.2.1 lg.2)
  have SR := Aside0.mk (fun (A B : Option Addr) (c d : Nat) => sameRow_call A B c d r hr)
  have SQ := Aside0.mk (fun (A B : Option Addr) (c d : Nat) => sameRow_call A B c d r2 hq)
  unfold EntP2 at CE CR
  unfold ChgP at CC CQ
  have HM := Aside0.mk hm
  have HM2 := Aside0.mk hm2
  clear hj hb hblk hB hD hD2 hs1 hs2 ha hg la lg hr hr' hq hq' hts hm hm2
  unfold Job.v at *
  go_enter Try.func4, Try.ntmps4
  go_upto_region 1 with fail
  obtain ⟨P, hP⟩ : ∃ P, w.heap.size = P := ⟨_, rfl⟩
  rw [hP] at J_1 ⊢
  clear hP
  generalize World.alloc _ _ = w1 at J_1 B_1 K_1 R_1 Q_1 ⊢
  obtain ⟨c0, c1, c2, c3, c4, c5, c6⟩ := J_1.out.cells
  by_cases h1 : 2000 < j.ts.length
  · go_wp2_with (go_at_call 8; (with_reducible refine (known_walk _).mono ?_); rintro e wk ⟨rfl, hb⟩; have BK := Aside0.mk (below_step B_1.out hb); clear hb)
    go_ret
    exact ⟨rfl, BK.out⟩
  by_cases h2 : 9000 < key.length
  · go_wp2_with (go_at_call 8; (with_reducible refine (known_walk _).mono ?_); rintro e wk ⟨rfl, hb⟩; have BK := Aside0.mk (below_step B_1.out hb); clear hb)
    go_ret
    exact ⟨rfl, BK.out⟩
  by_cases h3 : 9000 < s1
  · go_wp2_with (first | (go_at_call 18; (with_reducible refine (S1.out _ R_1.out HM.out).mono ?_); rintro e w2 ⟨rfl, hb⟩; have B_2 := Aside0.mk (below_step B_1.out hb); clear B_1; have J_2 := Aside0.mk (J_1.out.below hb); clear J_1; have K_2 := Aside0.mk (Kd.C_below K_1.out hb); clear K_1; have R_2 := Aside0.mk (Kd.C_below R_1.out hb); clear R_1; have Q_2 := Aside0.mk (Kd.C_below Q_1.out hb); clear Q_1; clear hb; clear c0 c1 c2 c3 c4 c5 c6; obtain ⟨c0, c1, c2, c3, c4, c5, c6⟩ := J_2.out.cells) | (go_at_call 8; (with_reducible refine (known_walk _).mono ?_); rintro e wk ⟨rfl, hb⟩; have BK := Aside0.mk (below_step B_2.out hb); clear hb))
    go_ret
    exact ⟨rfl, BK.out⟩
  by_cases h4 : 9000 < s2
  · go_wp2_with (first | (go_at_call 18; (with_reducible refine (S1.out _ R_1.out HM.out).mono ?_); rintro e w2 ⟨rfl, hb⟩; have B_2 := Aside0.mk (below_step B_1.out hb); clear B_1; have J_2 := Aside0.mk (J_1.out.below hb); clear J_1; have K_2 := Aside0.mk (Kd.C_below K_1.out hb); clear K_1; have R_2 := Aside0.mk (Kd.C_below R_1.out hb); clear R_1; have Q_2 := Aside0.mk (Kd.C_below Q_1.out hb); clear Q_1; clear hb; clear c0 c1 c2 c3 c4 c5 c6; obtain ⟨c0, c1, c2, c3, c4, c5, c6⟩ := J_2.out.cells) | (go_at_call 18; (with_reducible refine (S2.out _ Q_2.out HM2.out).mono ?_); rintro e w3 ⟨rfl, hb⟩; have B_3 := Aside0.mk (below_step B_2.out hb); clear B_2; have J_3 := Aside0.mk (J_2.out.below hb); clear J_2; have K_3 := Aside0.mk (Kd.C_below K_2.out hb); clear K_2; have R_3 := Aside0.mk (Kd.C_below R_2.out hb); clear R_2; have Q_3 := Aside0.mk (Kd.C_below Q_2.out hb); clear Q_2; clear hb; clear c0 c1 c2 c3 c4 c5 c6; obtain ⟨c0, c1, c2, c3, c4, c5, c6⟩ := J_3.out.cells) | (go_at_call 8; (with_reducible refine (known_walk _).mono ?_); rintro e wk ⟨rfl, hb⟩; have BK := Aside0.mk (below_step B_3.out hb); clear hb))
    go_ret
    exact ⟨rfl, BK.out⟩
  go_upto_region 3 with (first | (go_at_call 18; (with_reducible refine (S1.out _ R_1.out HM.out).mono ?_); rintro e w2 ⟨rfl, hb⟩; have B_2 := Aside0.mk (below_step B_1.out hb); clear B_1; have J_2 := Aside0.mk (J_1.out.below hb); clear J_1; have K_2 := Aside0.mk (Kd.C_below K_1.out hb); clear K_1; have R_2 := Aside0.mk (Kd.C_below R_1.out hb); clear R_1; have Q_2 := Aside0.mk (Kd.C_below Q_1.out hb); clear Q_1; clear hb; clear c0 c1 c2 c3 c4 c5 c6; obtain ⟨c0, c1, c2, c3, c4, c5, c6⟩ := J_2.out.cells) | (go_at_call 18; (with_reducible refine (S2.out _ Q_2.out HM2.out).mono ?_); rintro e w3 ⟨rfl, hb⟩; have B_3 := Aside0.mk (below_step B_2.out hb); clear B_2; have J_3 := Aside0.mk (J_2.out.below hb); clear J_2; have K_3 := Aside0.mk (Kd.C_below K_2.out hb); clear K_2; have R_3 := Aside0.mk (Kd.C_below R_2.out hb); clear R_2; have Q_3 := Aside0.mk (Kd.C_below Q_2.out hb); clear Q_2; clear hb; clear c0 c1 c2 c3 c4 c5 c6; obtain ⟨c0, c1, c2, c3, c4, c5, c6⟩ := J_3.out.cells))
  go_upto_region 4 with (first | (go_at_call 19; (with_reducible refine (CP1.out _ R_3.out HM.out).mono ?_); rintro e w4 ⟨AC, cc, rfl, hcc, hC, hb⟩; have B_4 := Aside0.mk (below_step B_3.out hb); clear B_3; have J_4 := Aside0.mk (J_3.out.below hb); clear J_3; have K_4 := Aside0.mk (Kd.C_below K_3.out hb); clear K_3; have R_4 := Aside0.mk (Kd.C_below R_3.out hb); clear R_3; have Q_4 := Aside0.mk (Kd.C_below Q_3.out hb); clear Q_3; clear hb; clear c0 c1 c2 c3 c4 c5 c6; obtain ⟨c0, c1, c2, c3, c4, c5, c6⟩ := J_4.out.cells; have C_4 := Aside0.mk hC; clear hC) | (go_at_call 19; (with_reducible refine (CP2.out _ Q_4.out HM2.out).mono ?_); rintro e w5 ⟨AE, ce, rfl, hce, hC, hb⟩; have B_5 := Aside0.mk (below_step B_4.out hb); clear B_4; have J_5 := Aside0.mk (J_4.out.below hb); clear J_4; have K_5 := Aside0.mk (Kd.C_below K_4.out hb); clear K_4; have R_5 := Aside0.mk (Kd.C_below R_4.out hb); clear R_4; have Q_5 := Aside0.mk (Kd.C_below Q_4.out hb); clear Q_4; have C_5 := Aside0.mk (Kd.C_below C_4.out hb); clear C_4; clear hb; clear c0 c1 c2 c3 c4 c5 c6; obtain ⟨c0, c1, c2, c3, c4, c5, c6⟩ := J_5.out.cells; have E_5 := Aside0.mk hC; clear hC))
  go_upto_region 5 with (first | (go_at_call 20; (with_reducible refine (CE.out _ _ _ J_5.out.inn K_5.out C_5.out hcc).mono ?_); rintro e w6 ⟨AL, cl, rfl, hcl, hC, hb⟩; have B_6 := Aside0.mk (below_step B_5.out hb); clear B_5; have J_6 := Aside0.mk (J_5.out.below hb); clear J_5; have K_6 := Aside0.mk (Kd.C_below K_5.out hb); clear K_5; have R_6 := Aside0.mk (Kd.C_below R_5.out hb); clear R_5; have Q_6 := Aside0.mk (Kd.C_below Q_5.out hb); clear Q_5; have C_6 := Aside0.mk (Kd.C_below C_5.out hb); clear C_5; have E_6 := Aside0.mk (Kd.C_below E_5.out hb); clear E_5; clear hb; clear c0 c1 c2 c3 c4 c5 c6; obtain ⟨c0, c1, c2, c3, c4, c5, c6⟩ := J_6.out.cells; have L_6 := Aside0.mk hC; clear hC))
  go_upto_region 6 with (first | (go_at_call 21; (with_reducible refine (CR.out _ _ _ J_6.out.inn K_6.out R_6.out HM.out).mono ?_); rintro e w7 ⟨AM, cm, rfl, hcm, hC, hb⟩; have B_7 := Aside0.mk (below_step B_6.out hb); clear B_6; have J_7 := Aside0.mk (J_6.out.below hb); clear J_6; have K_7 := Aside0.mk (Kd.C_below K_6.out hb); clear K_6; have R_7 := Aside0.mk (Kd.C_below R_6.out hb); clear R_6; have Q_7 := Aside0.mk (Kd.C_below Q_6.out hb); clear Q_6; have C_7 := Aside0.mk (Kd.C_below C_6.out hb); clear C_6; have E_7 := Aside0.mk (Kd.C_below E_6.out hb); clear E_6; have L_7 := Aside0.mk (Kd.C_below L_6.out hb); clear L_6; clear hb; clear c0 c1 c2 c3 c4 c5 c6; obtain ⟨c0, c1, c2, c3, c4, c5, c6⟩ := J_7.out.cells; have M_7 := Aside0.mk hC; clear hC))
  go_upto_region 7 with (first | (go_at_call 22; (with_reducible refine (CC.out _ _ _ _ _ J_7.out.inn K_7.out C_7.out hcc E_7.out hce).mono ?_); rintro e w8 ⟨AG, cg, AH, ch, rfl, hcg, hC, hch, hD, hb⟩; have B_8 := Aside0.mk (below_step B_7.out hb); clear B_7; have J_8 := Aside0.mk (J_7.out.below hb); clear J_7; have K_8 := Aside0.mk (Kd.C_below K_7.out hb); clear K_7; have R_8 := Aside0.mk (Kd.C_below R_7.out hb); clear R_7; have Q_8 := Aside0.mk (Kd.C_below Q_7.out hb); clear Q_7; have C_8 := Aside0.mk (Kd.C_below C_7.out hb); clear C_7; have E_8 := Aside0.mk (Kd.C_below E_7.out hb); clear E_7; have L_8 := Aside0.mk (Kd.C_below L_7.out hb); clear L_7; have M_8 := Aside0.mk (Kd.C_below M_7.out hb); clear M_7; clear hb; clear c0 c1 c2 c3 c4 c5 c6; obtain ⟨c0, c1, c2, c3, c4, c5, c6⟩ := J_8.out.cells; have G_8 := Aside0.mk hC; clear hC; have H_8 := Aside0.mk hD; clear hD))
  go_upto_region 8 with (first | (go_at_call 23; (with_reducible refine (CQ.out _ _ _ _ _ J_8.out.inn K_8.out R_8.out HM.out Q_8.out HM2.out).mono ?_); rintro e w9 ⟨AX, cx, AY, cy, rfl, hcx, hC, hcy, hD, hb⟩; have B_9 := Aside0.mk (below_step B_8.out hb); clear B_8; have J_9 := Aside0.mk (J_8.out.below hb); clear J_8; have K_9 := Aside0.mk (Kd.C_below K_8.out hb); clear K_8; have R_9 := Aside0.mk (Kd.C_below R_8.out hb); clear R_8; have Q_9 := Aside0.mk (Kd.C_below Q_8.out hb); clear Q_8; have C_9 := Aside0.mk (Kd.C_below C_8.out hb); clear C_8; have E_9 := Aside0.mk (Kd.C_below E_8.out hb); clear E_8; have L_9 := Aside0.mk (Kd.C_below L_8.out hb); clear L_8; have M_9 := Aside0.mk (Kd.C_below M_8.out hb); clear M_8; have G_9 := Aside0.mk (Kd.C_below G_8.out hb); clear G_8; have H_9 := Aside0.mk (Kd.C_below H_8.out hb); clear H_8; clear hb; clear c0 c1 c2 c3 c4 c5 c6; obtain ⟨c0, c1, c2, c3, c4, c5, c6⟩ := J_9.out.cells; have X_9 := Aside0.mk hC; clear hC; have Y_9 := Aside0.mk hD; clear hD))
  clear c0 c1 c2 c3 c4 c5 c6
  go_wp2_with (first | (go_at_call 24; (with_reducible refine (SE.out _ _ _ _ _ L_9.out hcl M_9.out hcm).mono ?_); rintro e w10 ⟨rfl, hd⟩; have hb := drawn_below hd; clear hd; have B_10 := Aside0.mk (below_step B_9.out hb); clear B_9; have J_10 := Aside0.mk (J_9.out.below hb); clear J_9; have K_10 := Aside0.mk (Kd.C_below K_9.out hb); clear K_9; have R_10 := Aside0.mk (Kd.C_below R_9.out hb); clear R_9; have Q_10 := Aside0.mk (Kd.C_below Q_9.out hb); clear Q_9; have C_10 := Aside0.mk (Kd.C_below C_9.out hb); clear C_9; have E_10 := Aside0.mk (Kd.C_below E_9.out hb); clear E_9; have L_10 := Aside0.mk (Kd.C_below L_9.out hb); clear L_9; have M_10 := Aside0.mk (Kd.C_below M_9.out hb); clear M_9; have G_10 := Aside0.mk (Kd.C_below G_9.out hb); clear G_9; have H_10 := Aside0.mk (Kd.C_below H_9.out hb); clear H_9; have X_10 := Aside0.mk (Kd.C_below X_9.out hb); clear X_9; have Y_10 := Aside0.mk (Kd.C_below Y_9.out hb); clear Y_9; clear hb) | (go_at_call 10; (with_reducible refine (num_call a.2 _).mono ?_); rintro e w11 ⟨rfl, hd⟩; have hb := drawn_below hd; clear hd; have B_11 := Aside0.mk (below_step B_10.out hb); clear B_10; have J_11 := Aside0.mk (J_10.out.below hb); clear J_10; have K_11 := Aside0.mk (Kd.C_below K_10.out hb); clear K_10; have R_11 := Aside0.mk (Kd.C_below R_10.out hb); clear R_10; have Q_11 := Aside0.mk (Kd.C_below Q_10.out hb); clear Q_10; have C_11 := Aside0.mk (Kd.C_below C_10.out hb); clear C_10; have E_11 := Aside0.mk (Kd.C_below E_10.out hb); clear E_10; have L_11 := Aside0.mk (Kd.C_below L_10.out hb); clear L_10; have M_11 := Aside0.mk (Kd.C_below M_10.out hb); clear M_10; have G_11 := Aside0.mk (Kd.C_below G_10.out hb); clear G_10; have H_11 := Aside0.mk (Kd.C_below H_10.out hb); clear H_10; have X_11 := Aside0.mk (Kd.C_below X_10.out hb); clear X_10; have Y_11 := Aside0.mk (Kd.C_below Y_10.out hb); clear Y_10; clear hb) | (go_at_call 24; (with_reducible refine (SG.out _ _ _ _ _ G_11.out hcg X_11.out hcx).mono ?_); rintro e w12 ⟨rfl, hd⟩; have hb := drawn_below hd; clear hd; have B_12 := Aside0.mk (below_step B_11.out hb); clear B_11; have J_12 := Aside0.mk (J_11.out.below hb); clear J_11; have K_12 := Aside0.mk (Kd.C_below K_11.out hb); clear K_11; have R_12 := Aside0.mk (Kd.C_below R_11.out hb); clear R_11; have Q_12 := Aside0.mk (Kd.C_below Q_11.out hb); clear Q_11; have C_12 := Aside0.mk (Kd.C_below C_11.out hb); clear C_11; have E_12 := Aside0.mk (Kd.C_below E_11.out hb); clear E_11; have L_12 := Aside0.mk (Kd.C_below L_11.out hb); clear L_11; have M_12 := Aside0.mk (Kd.C_below M_11.out hb); clear M_11; have G_12 := Aside0.mk (Kd.C_below G_11.out hb); clear G_11; have H_12 := Aside0.mk (Kd.C_below H_11.out hb); clear H_11; have X_12 := Aside0.mk (Kd.C_below X_11.out hb); clear X_11; have Y_12 := Aside0.mk (Kd.C_below Y_11.out hb); clear Y_11; clear hb) | (go_at_call 24; (with_reducible refine (SD.out _ _ _ _ _ H_12.out hch Y_12.out hcy).mono ?_); rintro e w13 ⟨rfl, hd⟩; have hb := drawn_below hd; clear hd; have B_13 := Aside0.mk (below_step B_12.out hb); clear B_12; have J_13 := Aside0.mk (J_12.out.below hb); clear J_12; have K_13 := Aside0.mk (Kd.C_below K_12.out hb); clear K_12; have R_13 := Aside0.mk (Kd.C_below R_12.out hb); clear R_12; have Q_13 := Aside0.mk (Kd.C_below Q_12.out hb); clear Q_12; have C_13 := Aside0.mk (Kd.C_below C_12.out hb); clear C_12; have E_13 := Aside0.mk (Kd.C_below E_12.out hb); clear E_12; have L_13 := Aside0.mk (Kd.C_below L_12.out hb); clear L_12; have M_13 := Aside0.mk (Kd.C_below M_12.out hb); clear M_12; have G_13 := Aside0.mk (Kd.C_below G_12.out hb); clear G_12; have H_13 := Aside0.mk (Kd.C_below H_12.out hb); clear H_12; have X_13 := Aside0.mk (Kd.C_below X_12.out hb); clear X_12; have Y_13 := Aside0.mk (Kd.C_below Y_12.out hb); clear Y_12; clear hb) | (go_at_call 10; (with_reducible refine (num_call g.2.2 _).mono ?_); rintro e w14 ⟨rfl, hd⟩; have hb := drawn_below hd; clear hd; have B_14 := Aside0.mk (below_step B_13.out hb); clear B_13; have J_14 := Aside0.mk (J_13.out.below hb); clear J_13; have K_14 := Aside0.mk (Kd.C_below K_13.out hb); clear K_13; have R_14 := Aside0.mk (Kd.C_below R_13.out hb); clear R_13; have Q_14 := Aside0.mk (Kd.C_below Q_13.out hb); clear Q_13; have C_14 := Aside0.mk (Kd.C_below C_13.out hb); clear C_13; have E_14 := Aside0.mk (Kd.C_below E_13.out hb); clear E_13; have L_14 := Aside0.mk (Kd.C_below L_13.out hb); clear L_13; have M_14 := Aside0.mk (Kd.C_below M_13.out hb); clear M_13; have G_14 := Aside0.mk (Kd.C_below G_13.out hb); clear G_13; have H_14 := Aside0.mk (Kd.C_below H_13.out hb); clear H_13; have X_14 := Aside0.mk (Kd.C_below X_13.out hb); clear X_13; have Y_14 := Aside0.mk (Kd.C_below Y_13.out hb); clear Y_13; clear hb) | (go_at_call 25; (with_reducible refine (SR.out _ _ _ _ _ C_14.out hcc R_14.out HM.out).mono ?_); rintro e w15 ⟨rfl, hd⟩; have hb := drawn_below hd; clear hd; have B_15 := Aside0.mk (below_step B_14.out hb); clear B_14; have J_15 := Aside0.mk (J_14.out.below hb); clear J_14; have K_15 := Aside0.mk (Kd.C_below K_14.out hb); clear K_14; have R_15 := Aside0.mk (Kd.C_below R_14.out hb); clear R_14; have Q_15 := Aside0.mk (Kd.C_below Q_14.out hb); clear Q_14; have C_15 := Aside0.mk (Kd.C_below C_14.out hb); clear C_14; have E_15 := Aside0.mk (Kd.C_below E_14.out hb); clear E_14; have L_15 := Aside0.mk (Kd.C_below L_14.out hb); clear L_14; have M_15 := Aside0.mk (Kd.C_below M_14.out hb); clear M_14; have G_15 := Aside0.mk (Kd.C_below G_14.out hb); clear G_14; have H_15 := Aside0.mk (Kd.C_below H_14.out hb); clear H_14; have X_15 := Aside0.mk (Kd.C_below X_14.out hb); clear X_14; have Y_15 := Aside0.mk (Kd.C_below Y_14.out hb); clear Y_14; clear hb) | (go_at_call 25; (with_reducible refine (SQ.out _ _ _ _ _ E_15.out hce Q_15.out HM2.out).mono ?_); rintro e w16 ⟨rfl, hd⟩; have hb := drawn_below hd; clear hd; have B_16 := Aside0.mk (below_step B_15.out hb); clear B_15; have J_16 := Aside0.mk (J_15.out.below hb); clear J_15; have K_16 := Aside0.mk (Kd.C_below K_15.out hb); clear K_15; have R_16 := Aside0.mk (Kd.C_below R_15.out hb); clear R_15; have Q_16 := Aside0.mk (Kd.C_below Q_15.out hb); clear Q_15; have C_16 := Aside0.mk (Kd.C_below C_15.out hb); clear C_15; have E_16 := Aside0.mk (Kd.C_below E_15.out hb); clear E_15; have L_16 := Aside0.mk (Kd.C_below L_15.out hb); clear L_15; have M_16 := Aside0.mk (Kd.C_below M_15.out hb); clear M_15; have G_16 := Aside0.mk (Kd.C_below G_15.out hb); clear G_15; have H_16 := Aside0.mk (Kd.C_below H_15.out hb); clear H_15; have X_16 := Aside0.mk (Kd.C_below X_15.out hb); clear X_15; have Y_16 := Aside0.mk (Kd.C_below Y_15.out hb); clear Y_15; clear hb) | (go_at_call 8; (with_reducible refine (known_walk _).mono ?_); rintro e w17 ⟨rfl, hb⟩; have B_17 := Aside0.mk (below_step B_16.out hb); clear B_16; have J_17 := Aside0.mk (J_16.out.below hb); clear J_16; have K_17 := Aside0.mk (Kd.C_below K_16.out hb); clear K_16; have R_17 := Aside0.mk (Kd.C_below R_16.out hb); clear R_16; have Q_17 := Aside0.mk (Kd.C_below Q_16.out hb); clear Q_16; have C_17 := Aside0.mk (Kd.C_below C_16.out hb); clear C_16; have E_17 := Aside0.mk (Kd.C_below E_16.out hb); clear E_16; have L_17 := Aside0.mk (Kd.C_below L_16.out hb); clear L_16; have M_17 := Aside0.mk (Kd.C_below M_16.out hb); clear M_16; have G_17 := Aside0.mk (Kd.C_below G_16.out hb); clear G_16; have H_17 := Aside0.mk (Kd.C_below H_16.out hb); clear H_16; have X_17 := Aside0.mk (Kd.C_below X_16.out hb); clear X_16; have Y_17 := Aside0.mk (Kd.C_below Y_16.out hb); clear Y_16; clear hb))
  go_ret
  exact ⟨by first | rfl | simp, B_17.out⟩
theorem entries_law (x : Int × Int × Int × Int × Int × Int × List Int) (cs : Array Value) (t : Int) (B : Option Addr) (d : Nat) (key : List Int) (D : Option Addr) (m : Nat) (r : List (List Int)) (D2 : Option Addr) (m2 : Nat) (r2 : List (List Int)) (W : World) (h : kj.K W x cs.toList) (hl : x.2.2.2.2.2.2.length ≤ 1048576)
    (hB : Kd.C (Kd.int .u8) W B key.length key) (hd : key.length ≤ d) (hk : key.length ≤ 1048576) (hD : Kd.C (Kd.slice 5 (Kd.int .u8)) W D r.length r) (hm : r.length ≤ m) (hz : Opn.bkL (Opn.bkL Opn.bk1) r ≤ 1048576) (hD2 : Kd.C (Kd.slice 5 (Kd.int .u8)) W D2 r2.length r2) (hm2 : r2.length ≤ m2) (hz2 : Opn.bkL (Opn.bkL Opn.bk1) r2 ≤ 1048576) :
    Calls Try.prog 4 #[.agg cs, .int .i64 t, .slice B key.length d, .slice D r.length m, .slice D2 r2.length m2] W (TrueP W) := by
  obtain ⟨A, n, rfl, hj⟩ := job_open h
  exact entries_walk (jobX x) A n t B d key D m r D2 m2 r2 W hj hl hk (rows_le r hz).1 (rows_le r hz).2 (rows_le r2 hz2).1 (rows_le r2 hz2).2 hB hd hD hm hD2 hm2
end Go.Proofs.Ytecdnhmdodedmaa.Ch
