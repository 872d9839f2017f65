/- catalog.without: the entries that others have not. -/
import Derived.Test.YtecdnhmdodedmaaCh
namespace Go.Proofs.Ytecdnhmdodedmaa.Ch
open Go.RowKit Go.Proofs.YtecdnhmdodedmaaW.PrintWords Go.Proofs.YtecdnhmdodedmaaW.PrintLast Go.Proofs.YtecdnhmdodedmaaW.PrintMore Go.Proofs.Ytecdnhmdodedmaa.HS
set_option linter.unusedVariables false
set_option linter.unusedSimpArgs false
/-- A row's bytes, as text. -/
def txt (l : List Int) : List UInt8 := (strOfNums l).toList
set_option maxRecDepth 100000 in
theorem equal (A B : Option Addr) (c d : Nat) (a b : List Int) (w : World) (h : Kd.C (Kd.int .u8) w A a.length a) (h2 : Kd.C (Kd.int .u8) w B b.length b) :
    Calls Try.prog 71 #[.slice A a.length c, .slice B b.length d] w fun e w' => e = .returned (.bool (txt a == txt b)) ∧ w = w' := by
  have hcv1 := Kd.C_string (P := Try.prog) (A := A) (c := c) Try.underlying42 Try.underlying5 Try.underlying9 h
  have hcv2 := Kd.C_string (P := Try.prog) (A := B) (c := d) Try.underlying42 Try.underlying5 Try.underlying9 h2
  unfold txt
  generalize strOfNums a = s at hcv1 ⊢
  generalize strOfNums b = t at hcv2 ⊢
  clear h h2
  go_enter Try.func71, Try.ntmps71
  go_wp2
  go_ret
  exact ⟨rfl, rfl⟩
def same62 (x y : S62) : Bool := x.f0 == y.f0 && (txt x.f1 == txt y.f1)
set_option maxRecDepth 100000 in
theorem clo62 (x y : S62) (P : Nat) (A B : Option Addr) (c d : Nat) (w : World) (h0 : w.cell? ⟨P, 0, none⟩ = some (.int .i64 x.f0)) (h1 : w.cell? ⟨P, 1, none⟩ = some (.slice A x.f1.length c))
    (hx : Kd.C (Kd.int .u8) w A x.f1.length x.f1) (hy : Kd.C (Kd.int .u8) w B y.f1.length y.f1) :
    Calls Try.prog 70 #[.agg #[.int .i64 y.f0, .slice B y.f1.length d], .pointer (some ⟨P, 0, none⟩)] w fun e w' => e = .returned (.bool (same62 x y)) ∧ Below w.heap.size w w' := by
  unfold same62
  have hb := below_alloc (Below.refl w.heap.size w) (.cells #[.int .i64 y.f0, .slice B y.f1.length d] 62)
  have hblk := blk_new w (.cells #[.int .i64 y.f0, .slice B y.f1.length d] 62)
  have z0 := pw_cell_below hb h0
  have z1 := pw_cell_below hb h1
  have y0 : (_ : Option Value) = some (.int .i64 y.f0) := (blk_cell hblk 0).trans rfl
  have y1 : (_ : Option Value) = some (.slice B y.f1.length d) := (blk_cell hblk 1).trans rfl
  have CX := Aside0.mk (Kd.C_below hx hb)
  have CY := Aside0.mk (Kd.C_below hy hb)
  have HB := Aside0.mk hb
  clear hblk h0 h1 hx hy hb
  by_cases he : x.f0 = y.f0
  · have e1 : (x.f0 == y.f0) = true := beq_iff_eq.2 he
    obtain ⟨y0', y1'⟩ := y
    obtain ⟨x0', x1'⟩ := x
    dsimp only at *
    subst he
    go_enter Try.func70, Try.ntmps70
    go_upto_region 1 with fail
    generalize w.alloc (.cells #[.int .i64 x0', .slice B y1'.length d] 62) = w1 at z0 z1 y0 y1 HB CX CY ⊢
    go_wp2_with (first | (go_at_call 71; (with_reducible refine (equal A B c d x1' y1' w1 CX.out CY.out).mono ?_); rintro e w' ⟨rfl, rfl⟩))
    all_goals go_ret
    all_goals exact ⟨by simp [*], HB.out⟩
  · have e1 : (x.f0 == y.f0) = false := beq_eq_false_iff_ne.2 he
    rw [e1]
    go_enter Try.func70, Try.ntmps70
    go_upto_region 1 with fail
    generalize w.alloc (.cells #[.int .i64 y.f0, .slice B y.f1.length d] 62) = w1 at z0 z1 y0 y1 HB CX CY ⊢
    go_wp2
    all_goals go_ret
    all_goals exact ⟨by first | rfl | simp, HB.out⟩
def withoutL (l m : List S62) : List S62 := l.filter fun x => !(m.any (same62 x))
theorem withoutL_snoc (l m : List S62) (k : Nat) (h : k < l.length) : withoutL (l.take (k + 1)) m = withoutL (l.take k) m ++ (if (m.any (same62 (rd_T62 l (k : Int)))) = true then [] else [rd_T62 l (k : Int)]) := by
  unfold withoutL
  rw [List.take_succ_eq_append_getElem h, List.filter_append]
  have e : rd_T62 l (k : Int) = l[k] := by simp [rd_T62, List.getD, h]
  rw [e]
  cases hx : (m.any (same62 l[k])) <;> simp [hx]
theorem withoutL_len (l m : List S62) : (withoutL l m).length ≤ l.length := List.length_filter_le _ _
/-- An entry list that the call has made; what its entries lead to is as it was in V. -/
def OwnE (V W : World) (base : Nat) (v : Value) (xs : List S62) : Prop := OwnRow (k62.K V) 62 2 W base v xs
theorem OwnE.reads {V W : World} {base : Nat} {v : Value} {xs : List S62} (h : OwnE V W base v xs) (hb : Below V.heap.size V W) : ∃ A c, v = .slice A xs.length c ∧ xs.length ≤ c ∧ Kd.C k62 W A xs.length xs := by
  obtain ⟨A, c, e, hl, hr⟩ := OwnRow.reads (OwnRow.imp_ h (fun _ _ hp => k62.K_below hb hp))
  exact ⟨A, c, e, hl, hr⟩
section
variable {ops : Array Oper} {o : Oper} {a : Act} {Q : Exit → Act → World → Prop} {rest : List Oper}
theorem append_entry {V W : World} (base : Nat) (hgd : o.guard = none) (s x : Operand)
    (ho : o.op = .call { callee := .builtin .append, args := #[s, x], argTypes := #[47, 47] })
    (v : Value) (xs : List S62) (p : S62) (A : Option Addr) (c : Nat) (hs : a.eval s = v) (hx : a.eval x = .slice (some ⟨W.heap.size, 0, none⟩) 1 1)
    (hl1 : p.f1.length ≤ c) (hp : Kd.C (Kd.int .u8) V A p.f1.length p.f1)
    (HO : OwnE V W base v xs) (hbase : base ≤ W.heap.size) (hl : (xs.length + 1) * 32 ≤ 140737488355328)
    (h : ∀ v1 w1, OwnE V w1 base v1 (xs ++ [p]) → Below base W w1 → wpList Try.prog ops Q rest (a.put o.dst v1) w1) : wpList Try.prog ops Q (o :: rest) a (W.alloc (.cells #[.int .i64 p.f0, .slice A p.f1.length c] 62)) :=
  OwnRow.append (P := Try.prog) (w0 := W) base hgd s x 47 62 (.agg #[(.int .i64 0), (.slice none 0 0)]) 2 32 ho Try.underlying47 info62 rfl (by decide) (by decide) v xs p [.int .i64 p.f0, .slice A p.f1.length c] hs hx (k62_mk V p hl1 hp) rfl (by intro u hu; simp at hu; rcases hu with rfl | rfl <;> rfl) HO (Below.refl _ _) hbase hl
    (fun v1 w1 h1 h2 _ _ => h v1 w1 h1 h2)
end
def EntP (xs : List S62) (w : World) (e : Ending) (w' : World) : Prop := ∃ A c, e = .returned (.slice A xs.length c) ∧ xs.length ≤ c ∧ Kd.C k62 w' A xs.length xs ∧ Below w.heap.size w w'
set_option maxHeartbeats 4000000 in
set_option maxRecDepth 100000 in
theorem without (A B : Option Addr) (c d : Nat) (l m : List S62) (w : World) (hA : Kd.C k62 w A l.length l) (hB : Kd.C k62 w B m.length m) (hll : l.length ≤ 1048576) :
    Calls Try.prog 50 #[.slice A l.length c, .slice B m.length d] w (EntP (withoutL l m) w) := by
  have HA := Aside0.mk hA
  have HB := Aside0.mk hB
  obtain ⟨R, hR⟩ : ∃ R, R = withoutL l m := ⟨_, rfl⟩
  rw [← hR]
  have HR := Aside0.mk hR
  clear hA hB hR
  go_enter Try.func50, Try.ntmps50
  go_wp2
  go_loopw [5, 10] (fun v i w' => ∃ k : Nat, i = .int .i64 k ∧ k ≤ l.length ∧ Aside0 (OwnE w w' w.heap.size v (withoutL (l.take k) m)) ∧ Aside0 (Below w.heap.size w w')) (fun _ i _ => l.length - (intOf i).toNat)
  case atStart => exact ⟨0, rfl, Nat.zero_le _, ⟨OwnRow.none_ _ _ _ _ _⟩, ⟨Below.refl _ _⟩⟩
  case round =>
    obtain ⟨k, rfl, hk, ho, hb⟩ := hrel
    by_cases hlt : k < l.length
    · obtain ⟨ad, A1, c1, ea, x0, x1, hl1, hC1⟩ := at_T62 HA.out (k : Int) (by omega) (by omega)
      subst ea
      simp only [Int.toNat_natCast] at x0 x1
      have k0 : (0 : Int) ≤ (k : Int) := by omega
      have k1 : (k : Int) < (l.length : Int) := by omega
      have hsn := withoutL_snoc l m k hlt
      have y0 := pw_cell_below hb.out x0
      have y1 := pw_cell_below hb.out x1
      obtain ⟨x, hx⟩ : ∃ x, rd_T62 l (k : Int) = x := ⟨_, rfl⟩
      rw [hx] at hsn y0 y1 hl1 hC1
      obtain ⟨b, hbe⟩ : ∃ b, (m.any (same62 x)) = b := ⟨_, rfl⟩
      have HBE := Aside0.mk hbe
      rw [hbe] at hsn
      have HSN := Aside0.mk hsn
      have HC1 := Aside0.mk hC1
      have HL1 := Aside0.mk hl1
      clear hsn hx hbe x0 x1 hl1 hC1
      go_upto_region 5 with fail
      have hb1 := below_alloc (Below.refl wr.heap.size wr) (.cells #[.int .i64 x.f0, .slice A1 x.f1.length c1] 62)
      have hblk := blk_new wr (.cells #[.int .i64 x.f0, .slice A1 x.f1.length c1] 62)
      have z0 : (_ : Option Value) = some (.int .i64 x.f0) := (blk_cell hblk 0).trans rfl
      have z1 : (_ : Option Value) = some (.slice A1 x.f1.length c1) := (blk_cell hblk 1).trans rfl
      have HO3 := Aside0.mk (OwnRow.below ho.out hb1)
      have HB3 := Aside0.mk (below_step hb.out hb1)
      obtain ⟨P, hP⟩ : ∃ P, wr.heap.size = P := ⟨_, rfl⟩
      rw [hP] at z0 z1 ⊢
      generalize wr.alloc (.cells #[.int .i64 x.f0, .slice A1 x.f1.length c1] 62) = w3 at z0 z1 HO3 HB3 ⊢
      have CT := Aside0.mk (contains62 B d m (same62 x) P w3 (Kd.C_below HB.out HB3.out) (fun i hi A' c' W hW hq => clo62 x (rd_T62 m (i : Int)) P A1 A' c1 c' W (pw_cell_below hW z0) (pw_cell_below hW z1) (Kd.C_below (Kd.C_below HC1.out HB3.out) hW) hq.2))
      rw [HBE.out] at CT
      have Z := Aside0.mk (And.intro z0 z1)
      clear hP hb1 hblk y0 y1 z0 z1
      cases b with
      | true =>
        go_wp2_with (first | (go_at_call 69; (with_reducible refine CT.out.mono ?_); rintro e w4 ⟨rfl, hb4⟩; have HB4 := Aside0.mk (below_step HB3.out hb4); have HO4 := Aside0.mk (OwnRow.below HO3.out hb4); clear hb4))
        go_roundw
        case rel => exact ⟨k + 1, by go_num, by omega, ⟨by have h := HSN.out; simp only [if_true, List.append_nil] at h; rw [h]; exact HO4.out⟩, HB4⟩
        case measure => simp [intOf]; omega
      | false =>
        go_wp2_with (first | (go_at_call 69; (with_reducible refine CT.out.mono ?_); rintro e w4 ⟨rfl, hb4⟩; have HB4 := Aside0.mk (below_step HB3.out hb4); have HO4 := Aside0.mk (OwnRow.below HO3.out hb4); have z0 := pw_cell_below hb4 Z.out.1; have z1 := pw_cell_below hb4 Z.out.2; clear hb4) | ((with_reducible refine gate_builtin (b := .append) (xs := #[.tmp 18, .tmp 20]) rfl ?_); at_builtin; refine append_entry (V := w) (W := w4) w.heap.size rfl (.tmp 18) (.tmp 20) rfl _ (withoutL (l.take k) m) x A1 c1 rfl rfl HL1.out HC1.out HO4.out HB4.out.size (by have := withoutL_len (l.take k) m; have := List.length_take_le k l; omega) ?_; intro v5 w5 ho5 hb5; have HO5 := Aside0.mk ho5; have HB5 := Aside0.mk (HB4.out.trans hb5); clear ho5 hb5))
        go_roundw
        case rel => exact ⟨k + 1, by go_num, by omega, ⟨by have h := HSN.out; rw [if_neg (by simp)] at h; rw [h]; exact HO5.out⟩, HB5⟩
        case measure => simp [intOf]; omega
    · obtain rfl : k = l.length := by omega
      obtain ⟨A2, c2, rfl, hc2, hC2⟩ := ho.out.reads hb.out
      rw [List.take_length] at *
      go_wp2
      go_ret
      rw [HR.out]
      exact ⟨A2, c2, rfl, hc2, hC2, hb.out⟩
end Go.Proofs.Ytecdnhmdodedmaa.Ch
