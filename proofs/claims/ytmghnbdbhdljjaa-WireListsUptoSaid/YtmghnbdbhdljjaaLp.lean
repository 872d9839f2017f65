/- A list of pairs' form (wire.Put). -/
import Derived.Test.YtmghnbdbhdljjaaLf
namespace Go.Proofs.Ytmghnbdbhdljjaa.Li
open Go.RowKit Go.Proofs.YtmghnbdbhdljjaaW.PrintWords Go.Proofs.YtmghnbdbhdljjaaW.PrintLast Go.Proofs.YtmghnbdbhdljjaaW.PrintMore Go.Proofs.Ytmghnbdbhdljjaa.HS
set_option linter.unusedVariables false
set_option linter.unusedSimpArgs false
abbrev kp : Kd (Int × Int) := Kd.pair (Kd.int .u64) (Kd.int .u64)
theorem next_cell {W : World} {ad : Addr} {i : Nat} {v : Value} (h : W.cell? (ad.add (i + 1)) = some v) : W.cell? ⟨(ad.add i).block, (ad.add i).off + 1, none⟩ = some v := by
  have e : ad.add (i + 1) = ⟨(ad.add i).block, (ad.add i).off + 1, none⟩ := by
    unfold Addr.add
    rw [if_neg (by omega)]
    by_cases h0 : i = 0
    · rw [if_pos h0, h0]
    · rw [if_neg h0]
      simp [Nat.add_assoc]
  rw [← e]
  exact h
theorem at_pair {W : World} {B : Option Addr} {ps : List (Int × Int)} (h : Kd.C kp W B ps.length ps) (i : Nat) (hi : i < ps.length) :
    ∃ ad, B = some ad ∧ W.cell? (ad.add (i * 2)) = some (.int .u64 ps[i].1) ∧ W.cell? ⟨(ad.add (i * 2)).block, (ad.add (i * 2)).off + 1, none⟩ = some (.int .u64 ps[i].2) := by
  obtain ⟨ad, e, hc⟩ := h.2.2 (by omega)
  refine ⟨ad, e, ?_⟩
  obtain ⟨c, hl, hK, hcell⟩ := hc i ps[i] (by simp [hi])
  obtain ⟨c0, c1, rfl, rfl, rfl⟩ := hK
  exact ⟨hcell 0 _ rfl, next_cell (hcell 1 _ rfl)⟩
def putB (ps : List (Int × Int)) : List Int := Rd.wnum ps.length ++ (ps.map pairB).flatten
def PutP (xs : List Int) (w : World) (e : Ending) (w' : World) : Prop := ∃ (A : Option Addr) (c : Nat), e = .returned (.tuple #[.slice A xs.length c, .int .i64 0]) ∧ xs.length ≤ c ∧ Rd.Own w' w.heap.size (.slice A xs.length c) xs ∧ Below w.heap.size w w'
theorem put_step (ps : List (Int × Int)) (k : Nat) (hk : k < ps.length) : Rd.wnum ps.length ++ ((ps.take (k + 1)).map pairB).flatten = (Rd.wnum ps.length ++ ((ps.take k).map pairB).flatten) ++ pairB ps[k] := by
  rw [List.take_succ_eq_append_getElem hk, List.map_append, List.flatten_append, List.append_assoc]
  simp
theorem put_len (ps : List (Int × Int)) (k : Nat) : (Rd.wnum ps.length ++ ((ps.take k).map pairB).flatten).length ≤ 10 + 20 * k := by
  induction k with
  | zero => have := Rd.wnum_len ps.length; simp; omega
  | succ k ih =>
    by_cases hk : k < ps.length
    · rw [put_step ps k hk, List.length_append]
      have := pairB_len ps[k]
      omega
    · rw [List.take_of_length_le (by omega)] at ih ⊢
      omega
set_option maxHeartbeats 4000000 in
set_option maxRecDepth 100000 in
theorem put (A : Option Addr) (c : Nat) (ps : List (Int × Int)) (w : World) (hA : Kd.C kp w A ps.length ps) (hc : ps.length ≤ c) (hu : ∀ p ∈ ps, U p) (hl : ps.length ≤ 1048577) :
    Calls Try.prog 27 #[.slice A ps.length c, .func (.func 28) #[] #[]] w (PutP (putB ps) w) := by
  have HA := Aside0.mk hA
  have HU := Aside0.mk hu
  have hq := Rd.run_eql_func_nil (t := 53) Try.underlying53 28 #[] #[]
  have hcv : IntKind.u64.wrap (ps.length : Int) = (ps.length : Int) := by rw [IntKind.wrap_u64]; omega
  have CN := Aside0.mk (show ∀ W, Calls Try.prog 9 #[.int .u64 (ps.length : Int)] W (FormP (Rd.wnum ps.length) W) from fun W => by have := num_form (ps.length : Int) (by omega) (by omega) W; rwa [Int.toNat_natCast] at this)
  have HL := Aside0.mk hl
  clear hA hu
  go_enter Try.func27, Try.ntmps27
  go_wp2_with (first | (go_at_call 9; (with_reducible refine (CN.out _).mono ?_); rintro e w1 ⟨A1, c1, rfl, hc1, ho, hb⟩; have HO1 := Aside0.mk ho; have HB1 := Aside0.mk hb; clear ho hb))
  go_loopw [6, 17] (fun b i w' => ∃ k : Nat, i = .int .i64 k ∧ k ≤ ps.length ∧ Aside0 (Rd.Own w' w.heap.size b (Rd.wnum ps.length ++ ((ps.take k).map pairB).flatten)) ∧ Aside0 (Below w.heap.size w w')) (fun _ i _ => ps.length - (intOf i).toNat)
  case atStart => exact ⟨0, rfl, Nat.zero_le _, ⟨by simpa using HO1.out⟩, HB1⟩
  case round =>
    obtain ⟨k, rfl, hk, ho, hb⟩ := hrel
    by_cases hlt : k < ps.length
    · obtain ⟨ad, ead, x0, x1⟩ := at_pair (Kd.C_below HA.out hb.out) k hlt
      subst ead
      have CF := Aside0.mk (fun W => form ps[k] (HU.out _ (List.getElem_mem hlt)) W)
      have PS := Aside0.mk (put_step ps k hlt)
      have PL := Aside0.mk (put_len ps k)
      have PB := Aside0.mk (pairB_len ps[k])
      generalize ps[k] = p at x0 x1 CF PS PB
      obtain ⟨a, b⟩ := p
      have k0 : (0 : Int) ≤ (k : Int) := by omega
      have k1 : (k : Int) < (ps.length : Int) := by omega
      go_upto_region 7 with fail
      have hblk := blk_new wr (.cells #[.int .u64 a, .int .u64 b] 51)
      have y0 := (blk_cell hblk 0).trans rfl
      have y1 := (blk_cell hblk 1).trans rfl
      have HB2 := Aside0.mk (below_alloc (Below.refl wr.heap.size wr) (.cells #[.int .u64 a, .int .u64 b] 51))
      clear hblk x0 x1
      generalize wr.alloc (.cells #[.int .u64 a, .int .u64 b] 51) = w2 at y0 y1 HB2 ⊢
      have HO2 := Aside0.mk (ho.out.below HB2.out)
      have HB3 := Aside0.mk (below_step hb.out HB2.out)
      go_wp2_with (first | (go_at_call 28; (with_reducible refine (CF.out _).mono ?_); rintro e w3 ⟨A3, c3, rfl, hc3, ho3, hb3⟩; have HO3 := Aside0.mk ho3; have HB4 := Aside0.mk (below_step HB3.out hb3); have HO2' := Aside0.mk (HO2.out.below hb3); clear ho3 hb3) | ((with_reducible refine gate_builtin (b := .append) (xs := #[.tmp 21, .tmp 24]) rfl ?_); at_builtin; refine Rd.append_list (W := w3) w.heap.size rfl (.tmp 21) (.tmp 24) rfl _ (Rd.wnum ps.length ++ ((ps.take k).map pairB).flatten) (pairB (a, b)) A3 (pairB (a, b)).length c3 rfl rfl HO2'.out (by obtain ⟨A', c', e', hc', hC', _⟩ := HO3.out.reads; cases e'; exact hC') HB4.out.size (by have := PL.out; have := PB.out; have := HL.out; omega) ?_; intro v4 w4 ho4 hb4 hg4 hat4; have HO4 := Aside0.mk ho4; have HB5 := Aside0.mk (HB4.out.trans hb4); clear ho4 hb4 hg4 hat4))
      go_roundw
      case rel => exact ⟨k + 1, by go_num, by omega, ⟨by rw [PS.out]; exact HO4.out⟩, HB5⟩
      case measure => simp [intOf]; omega
    · obtain rfl : k = ps.length := by omega
      have ho' := ho.out
      rw [List.take_length] at ho'
      obtain ⟨A5, c5, rfl, hc5, hC5, hlo5⟩ := ho'.reads
      have HO5 := Aside0.mk ho'
      clear ho ho' hC5 hlo5
      go_wp2
      go_ret2
      exact ⟨A5, c5, rfl, hc5, HO5.out, hb.out⟩
end Go.Proofs.Ytmghnbdbhdljjaa.Li
