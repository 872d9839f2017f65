/- The law WireReads' call. -/
import Derived.Test.YtmghnbdbhdljjaaSp
namespace Go.Proofs.Ytmghnbdbhdljjaa.Sp
open Go.RowKit Go.Proofs.YtmghnbdbhdljjaaW.PrintWords Go.Proofs.YtmghnbdbhdljjaaW.PrintLast Go.Proofs.YtmghnbdbhdljjaaW.PrintMore Go.Proofs.Ytmghnbdbhdljjaa.HS
set_option linter.unusedVariables false
set_option linter.unusedSimpArgs false
section
variable {ops : Array Oper} {o : Oper} {a : Act} {Q : Exit → Act → World → Prop} {rest : List Oper}
theorem append_one {W : World} (base : Nat) (hgd : o.guard = none) (s x : Operand)
    (ho : o.op = .call { callee := .builtin .append, args := #[s, x], argTypes := #[23, 23] })
    (v : Value) (xs : List Int) (p : Int) (hs : a.eval s = v) (hx : a.eval x = .slice (some ⟨W.heap.size, 0, none⟩) 1 1)
    (HO : Rd.Own W base v xs) (hbase : base ≤ W.heap.size) (hl : xs.length + 1 ≤ 140737488355328)
    (h : ∀ v1 w1, Rd.Own w1 base v1 (xs ++ [p]) → Below base W w1 → wpList Try.prog ops Q rest (a.put o.dst v1) w1) : wpList Try.prog ops Q (o :: rest) a (W.alloc (.cells #[.int .u8 p] 5)) :=
  Kd.R_append (P := Try.prog) (Kd.int .u8) (w0 := W) base hgd s x 23 5 (.int .u8 0) 1 ho Try.underlying23 Rd.info_u8 rfl (by decide) (by omega) v xs p [.int .u8 p] (fun k => base ≤ k) (fun _ => False) hs hx rfl (fun _ h => h.elim) (fun k hk => Nat.le_trans hbase hk) HO (Below.refl _ _) hbase (by omega)
    (fun v1 w1 h1 h2 _ _ => h v1 w1 h1 h2)
end
theorem own_text (l : List Int) : (strOfNums (l ++ [165])).toList = ((strOfNums l) ++ (⟨#[165]⟩ : ByteArray)).toList := by
  have : strOfNums (l ++ [165]) = (strOfNums l) ++ (⟨#[165]⟩ : ByteArray) := by
    apply ByteArray.ext
    simp [strOfNums, ByteArray.data_append]
  rw [this]
theorem known_call (w : World) : Calls Try.prog 18 #[] w fun e w' => e = .returned (.bool true) ∧ Below w.heap.size w w' := garnerlaw01_known.calls true w rfl
def RightPost (w : World) (e : Ending) (w' : World) : Prop := e = .returned (.bool true) ∧ Below w.heap.size w w'
theorem row_low {w : World} {A : Option Addr} {xs : List Int} (h : Kd.C (Kd.int .u8) w A xs.length xs) (h0 : 0 < xs.length) (ad : Addr) (e : A = some ad) : ad.block < w.heap.size := by
  obtain ⟨ad', e', hx⟩ := Kd.at_int h 0 (by omega) (by omega)
  cases e.symm.trans e'
  have := World.block_lt_of_cell? w _ hx
  rwa [add_block] at this
/-- What both readers tell of their place. -/
theorem obs (w0 : World) (g y h : Nat) (b : List Int) (n : Nat) : ∃ (q E : Int) (z : Bool), (E == 0) = z ∧ (q == 0) = z ∧
    (∀ W, Rd.Is W g y b n → Calls Try.prog 26 #[.pointer (some ⟨g, 0, none⟩)] W fun e w' => e = .returned (.int .i64 q) ∧ Drawn0 W w') ∧
    (∀ W, Rr.Is W h w0.heap.size b n → Calls Try.prog 32 #[.pointer (some ⟨h, 0, none⟩)] W fun e w' => e = .returned (.int .i64 q) ∧ Drawn0 W w') ∧
    (∀ W, Rd.Is W g y b n → Calls Try.prog 25 #[.pointer (some ⟨g, 0, none⟩)] W fun e w' => e = .returned (.int .i64 E) ∧ Drawn0 W w') := by
  refine ⟨((b.length - n : Nat) : Int), if n < b.length then 4 else 0, (((b.length - n : Nat) : Int) == 0), ?_, rfl, fun W hi => ?_, fun W hi => ?_, fun W hi => ?_⟩
  · by_cases hlt : n < b.length
    · rw [if_pos hlt]
      exact (beq_eq_false_iff_ne.mpr (by omega : ((b.length - n : Nat) : Int) ≠ 0)).symm ▸ rfl
    · rw [if_neg hlt, show b.length - n = 0 by omega]
      rfl
  · exact (Rd.left g y b n W hi).mono fun e w' ⟨h1, h2⟩ => ⟨h1, ⟨h2⟩⟩
  · exact (Rr.left h _ b n W hi).mono fun e w' ⟨h1, h2⟩ => ⟨h1, ⟨h2⟩⟩
  · exact (Rd.end_ g y b n W hi).mono fun e w' ⟨h1, h2⟩ => ⟨h1, ⟨h2⟩⟩
theorem next_cell {W : World} {ad : Addr} {i : Nat} {v : Value} (h : W.cell? (ad.add (i + 1)) = some v) : W.cell? ⟨(ad.add i).block, (ad.add i).off + 1, none⟩ = some v := by
  have e : ad.add (i + 1) = ⟨(ad.add i).block, (ad.add i).off + 1, none⟩ := by
    unfold Addr.add
    rw [if_neg (by omega)]
    by_cases h0 : i = 0
    · rw [if_pos h0, h0]
    · rw [if_neg h0]
      simp [Nat.add_assoc]
  rw [← e]
  exact h
theorem at_op {W : World} {B : Option Addr} {ops : List (Int × Int)} (h : Kd.C (Kd.pair (Kd.int .i64) (Kd.int .i64)) W B ops.length ops) (i : Nat) (hi : i < ops.length) :
    ∃ ad, B = some ad ∧ W.cell? (ad.add (i * 2)) = some (.int .i64 ops[i].1) ∧ W.cell? ⟨(ad.add (i * 2)).block, (ad.add (i * 2)).off + 1, none⟩ = some (.int .i64 ops[i].2) := by
  obtain ⟨ad, e, hc⟩ := h.2.2 (by omega)
  refine ⟨ad, e, ?_⟩
  obtain ⟨c, hl, hK, hcell⟩ := hc i ops[i] (by simp [hi])
  obtain ⟨c0, c1, rfl, rfl, rfl⟩ := hK
  exact ⟨hcell 0 _ rfl, next_cell (hcell 1 _ rfl)⟩
set_option maxHeartbeats 8000000 in
set_option maxRecDepth 100000 in
theorem reads_walk (A : Option Addr) (c : Nat) (b : List Int) (B : Option Addr) (d : Nat) (ops : List (Int × Int)) (w : World) (hA : Kd.C (Kd.int .u8) w A b.length b) (hc : b.length ≤ c) (yb : Rd.Byt b) (hb : b.length ≤ 1048576)
    (hO : Kd.C (Kd.pair (Kd.int .i64) (Kd.int .i64)) w B ops.length ops) (hd : ops.length ≤ d) (hm : ∀ o ∈ ops, o.2 ≤ 9223372036854775807) :
    Calls Try.prog 6 #[.slice A b.length c, .slice B ops.length d] w (RightPost w) := by
  have HA := Aside0.mk hA
  have HOP := Aside0.mk hO
  have HM := Aside0.mk hm
  have YB := Aside0.mk yb
  have HBL := Aside0.mk hb
  obtain ⟨m, em⟩ : ∃ m, m = b ++ [165] := ⟨_, rfl⟩
  have ml : m.length = b.length + 1 := by rw [em, List.length_append]; rfl
  have EM := Aside0.mk em
  have c0 : b.length ≤ m.length := by omega
  have CSZ := Aside0.mk (show (strOfNums b).size + 1 ≤ 9223372036854775807 by rw [strOfNums_size]; omega)
  have ht : (strOfNums m).toList = ((strOfNums b) ++ (⟨#[165]⟩ : ByteArray)).toList := by rw [em]; exact own_text b
  have e0 : ((strOfNums m).toList == ((strOfNums b) ++ (⟨#[165]⟩ : ByteArray)).toList) = true := beq_iff_eq.mpr ht
  have e1 : ((strOfNums m).toList != ((strOfNums b) ++ (⟨#[165]⟩ : ByteArray)).toList) = false := bne_eq_false_iff_eq.mpr ht
  have ML := Aside0.mk ml
  clear hA hO hm yb hb em ml ht
  go_enter Try.func6, Try.ntmps6
  go_upto_region 2 with (first | ((with_reducible refine gate_builtin (b := .append) (xs := #[.const (.slice none 0 0), .tmp 9]) rfl ?_); at_builtin; refine Rd.append_list w.heap.size rfl (.const (.slice none 0 0)) (.tmp 9) rfl (.slice none 0 0) [] b A b.length c rfl rfl (Rd.Own.nil _ _) HA.out (Nat.le_refl _) (by have := HBL.out; simp only [List.length_nil]; omega) ?_; intro v1 w1 ho hb1 hg1 hat; have HO1 := Aside0.mk ho; have HB1 := Aside0.mk hb1; clear ho hb1 hg1 hat) | ((with_reducible refine gate_builtin (b := .append) (xs := #[.tmp 10, .tmp 11]) rfl ?_); at_builtin; refine append_one (W := w1) w.heap.size rfl (.tmp 10) (.tmp 11) rfl v1 ([] ++ b) 165 rfl rfl HO1.out HB1.out.size (by have := HBL.out; simp only [List.nil_append]; omega) ?_; intro v2 w2 ho hb1; rw [List.nil_append, ← EM.out] at ho; have HO2 := Aside0.mk ho; have HB2 := Aside0.mk (HB1.out.trans hb1); clear ho hb1))
  obtain ⟨A2, c2, rfl, hc2, hC2, hlo2⟩ := HO2.out.reads
  clear HO1 HB1
  obtain ⟨i0, hi0, _, hsz0, _⟩ := info_parts Rd.info_u8
  have hcut := cut_to (P := Try.prog) 23 5 .i64 Try.underlying23 hi0 A2 m.length c2 (b.length : Int) (by omega) (by omega) hc2
  rw [Int.toNat_natCast] at hcut
  have hr := Kd.C_take (m := b.length) hC2 c0
  rw [show m.take b.length = b by rw [EM.out]; simp] at hr
  have CO := Aside0.mk (Rd.open_ A2 c2 b w2 hr (by omega) YB.out (by have := HBL.out; omega))
  have hcv1 := Kd.C_string (P := Try.prog) (A := A) (c := c) Try.underlying23 Try.underlying5 Try.underlying9 (Kd.C_below HA.out HB2.out)
  clear hi0 hsz0 hr hC2 hlo2
  go_upto_region 5 with (first | (go_at_call 19; refine CO.out.mono ?_; rintro e w3 ⟨g, y, rfl, hi, hy, hg, hb3⟩; have HI := Aside0.mk hi; have HY := Aside0.mk (And.intro hy hg); have HB3 := Aside0.mk (below_step HB2.out hb3); have HO3 := Aside0.mk (HO2.out.below hb3); have hcv2 := Kd.C_string (P := Try.prog) (A := A) (c := c) Try.underlying23 Try.underlying5 Try.underlying9 (Kd.C_below HA.out HB3.out); have hcv3 := Kd.C_string (P := Try.prog) (A := A2) (c := c2) Try.underlying23 Try.underlying5 Try.underlying9 (by obtain ⟨A', c', e', hc', hC', _⟩ := HO3.out.reads; cases e'; exact hC'); have sz1 := CSZ.out; have sz2 := eq_true sz1; clear hi hy hg hb3 hcv1))
  clear hcv2 hcv3 e0 e1 hcut CO sz1 sz2
  have HLT := Aside0.mk (show ∀ k, (Value.slice A2 m.length c2).ownBlock = some k → w.heap.size ≤ k ∧ k < w2.heap.size from fun k hk => ⟨HO2.out.1 k hk, Kd.R_lt HO2.out k hk⟩)
  go_upto_region 8 with (first | (go_at_call 17; (refine (spoil_call HB3.out (Nat.le_refl _) HO3.out (by have := HBL.out; have := ML.out; omega)).mono ?_); rintro e w4 ⟨rfl, hb, hg⟩; have HI4 := Aside0.mk (is_grown HI.out hg (fun e => by have h1 := HLT.out g e.symm; have h2 := HY.out; omega) (fun h0 e => by have h1 := HLT.out y e.symm; have h2 := HY.out; omega)); have HB4 := Aside0.mk hb; clear hb hg))
  have S0 : Aside0 (St w (w4.alloc (.cells #[.slice A b.length c, .int .i64 0] 61)) g y w4.heap.size b 0 0) := by
    have hb := below_alloc (Below.refl w4.heap.size w4) (.cells #[.slice A b.length c, .int .i64 0] 61)
    have h1 := HY.out
    have h2 := HB2.out.size
    have h3 := HB4.out.size
    exact ⟨⟨HI4.out.below hb, ⟨A, c, blk_new w4 _, hc, Kd.C_below HA.out (below_step HB4.out hb), fun h0 ad e => row_low HA.out h0 ad e, h3, Nat.zero_le _, YB.out⟩, by omega, by have := HI4.out.lt; omega, fun h0 => ⟨by omega, by have := HI4.out.row_lt h0; omega⟩, below_step HB4.out hb⟩⟩
  generalize w4.alloc (.cells #[.slice A b.length c, .int .i64 0] 61) = w5 at S0 ⊢
  obtain ⟨h, eh⟩ : ∃ h, h = w4.heap.size := ⟨_, rfl⟩
  rw [← eh] at S0 ⊢
  clear eh HI4 HB4 HLT HO3 HB3 HY HI HO2 HB2 EM CSZ ML c0
  have hol : ops.length ≤ 9223372036854775807 := HOP.out.2.1
  go_loopw [8] (fun i w' => ∃ k n : Nat, i = .int .i64 k ∧ k ≤ ops.length ∧ Aside0 (St w w' g y h b n n)) (fun i _ => ops.length - (intOf i).toNat)
  case atStart => exact ⟨0, 0, rfl, Nat.zero_le _, S0⟩
  case round =>
    clear S0
    obtain ⟨k, n, rfl, hk, S1⟩ := hrel
    by_cases hlt : k < ops.length ∧ k < 300
    · obtain ⟨hl1, hl2⟩ := hlt
      obtain ⟨ad, ead, x0, x1⟩ := at_op (Kd.C_below HOP.out S1.out.bel) k hl1
      subst ead
      have hmx := HM.out ops[k] (List.getElem_mem hl1)
      obtain ⟨p1, hp1⟩ : ∃ p, p = ops[k].1 := ⟨_, rfl⟩
      obtain ⟨p2, hp2⟩ : ∃ p, p = ops[k].2 := ⟨_, rfl⟩
      rw [← hp1] at x0
      rw [← hp2] at x1 hmx
      have CS := Aside0.mk (step_call w wr g y h b n p1 p2 S1.out HBL.out hmx)
      have k0 : (0 : Int) ≤ (k : Int) := by omega
      have k1 : (k : Int) < (ops.length : Int) := by omega
      have k2 : (k : Int) < 300 := by omega
      clear hp1 hp2 hmx
      go_upto_region 10 with fail
      go_wp2_with (first | (go_at_call 31; (with_reducible refine CS.out.mono ?_); rintro e w6 ⟨rfl, n', hs⟩; have S2 := Aside0.mk hs; obtain ⟨q, E, z, hE, hq, hcl, hcd, hce⟩ := obs w g y h b n'; have CL := Aside0.mk hcl; have CD := Aside0.mk hcd; have CE := Aside0.mk hce; clear hs hcl hcd hce) | (go_at_call 26; (with_reducible refine (CL.out _ S2.out.r).mono ?_); rintro e w7 ⟨rfl, hd⟩; have S3 := Aside0.mk (S2.out.below hd.below); clear hd) | (go_at_call 32; first | ((with_reducible refine (CD.out _ S5.out.d).mono ?_); rintro e w11 ⟨rfl, hd⟩; have S6 := Aside0.mk (S5.out.below hd.below); clear hd) | ((with_reducible refine (CD.out _ S3.out.d).mono ?_); rintro e w8 ⟨rfl, hd⟩; have S4 := Aside0.mk (S3.out.below hd.below); clear hd)) | (go_at_call 25; (with_reducible refine (CE.out _ S4.out.r).mono ?_); rintro e w9 ⟨rfl, hd⟩; have S45 := Aside0.mk (S4.out.below hd.below); clear hd) | (go_at_call 24; refine (num_call _ _).mono ?_; rintro e w10 ⟨rfl, hd⟩; have S5 := Aside0.mk (S45.out.below hd.below); clear hd))
      go_roundw
      case rel => exact ⟨k + 1, n', by go_num, by omega, S6⟩
      case measure => simp [intOf]; omega
    · have hcond : (k < ops.length ∧ decide ((k : Int) < 300) = false) ∨ ¬ k < ops.length := by
        by_cases h1 : k < ops.length
        · exact Or.inl ⟨h1, decide_eq_false (by omega)⟩
        · exact Or.inr h1
      clear hlt
      rcases hcond with ⟨h1, h2⟩ | h1
      · go_wp2_with (first | (go_at_call 18; (refine (known_call _).mono ?_); rintro e w6 ⟨rfl, hb⟩; have HB := Aside0.mk (below_step S1.out.bel hb); clear hb))
        go_ret
        exact ⟨rfl, HB.out⟩
      · go_wp2_with (first | (go_at_call 18; (refine (known_call _).mono ?_); rintro e w6 ⟨rfl, hb⟩; have HB := Aside0.mk (below_step S1.out.bel hb); clear hb))
        go_ret
        exact ⟨rfl, HB.out⟩
end Go.Proofs.Ytmghnbdbhdljjaa.Sp
