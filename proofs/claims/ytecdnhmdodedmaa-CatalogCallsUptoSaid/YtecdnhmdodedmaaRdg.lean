/- Readers of wire: what a reader is in memory, and what each of its calls answers, as a plain function of its bytes and its place. -/
import Derived.Test.YtecdnhmdodedmaaProg
import Derived.Below
import Derived.Deep.Draws
import Derived.Deep.AppendLies
import Derived.Maps.AppendAt
import Derived.OwnWalk
import Derived.Laws.BytesArg
import Derived.Laws.MakeOwn
import Derived.Laws.OwnMore
import Derived.Deep.OwnRows
import Derived.Tactics
import Derived.Lib.ConvBytes
import Derived.Laws.Slices
import Derived.WalkKit
import Derived.KernelRfl
import Derived.RowKit3
import Derived.Deep.LoopGhost
import Derived.Deep.QuietTactic
import Derived.BigQuiet
import Derived.WideLaws
import Derived.Deep.DeepCutAuto
import Derived.Deep.CutBlock
import Derived.Deep.RegionHeld3
import Derived.Laws.Rows
import Derived.Lib.AppendStr
import Derived.ArgAppend
import Derived.Laws.IdiomCopy
import Derived.OrdersHeld
import Derived.Laws.BitsLemmas
import Derived.RowKit
import Derived.Lib.BytesEntry
import Derived.Test.YtecdnhmdodedmaaWWords
import Derived.Test.YtecdnhmdodedmaaWLast
import Derived.Test.YtecdnhmdodedmaaWTab
import Derived.Test.YtecdnhmdodedmaaWApart
import Derived.Test.YtecdnhmdodedmaaWArr
import Derived.Test.YtecdnhmdodedmaaWFoot
import Derived.Test.YtecdnhmdodedmaaWKept
import Derived.Test.YtecdnhmdodedmaaWShare
import Derived.Test.YtecdnhmdodedmaaWEqStruct
import Derived.Test.YtecdnhmdodedmaaWRepsOne
import Derived.Test.YtecdnhmdodedmaaWGuard
import Derived.Test.YtecdnhmdodedmaaWMore
import Derived.OwnWalkIn
import Derived.TacticsInMore
import Derived.LoopNIn
import Derived.LoopIn
import Derived.Maps.AppendAt
import Derived.Maps.Range
import Derived.StillTailTactics
import Derived.WalkSpells
import Derived.IntWalk
import Derived.Laws.BitsAllLaws
import Derived.WalkMore
import Derived.Laws.Cover3
namespace Go.Proofs.Ytecdnhmdodedmaa.Rd
open Go.RowKit Go.Proofs.YtecdnhmdodedmaaW.PrintWords Go.Proofs.YtecdnhmdodedmaaW.PrintLast Go.Proofs.YtecdnhmdodedmaaW.PrintMore
set_option linter.unusedVariables false
set_option linter.unusedSimpArgs false
/-- Whole numbers that are bytes. -/
def Byt (l : List Int) : Prop := ∀ x ∈ l, 0 ≤ x ∧ x < 256
theorem byt_rd {l : List Int} (h : Byt l) {i : Nat} (hi : i < l.length) : 0 ≤ rd l i ∧ rd l i < 256 := by
  have e : rd l (i : Int) = l[i] := by simp [rd, hi]
  rw [e]
  exact h _ (List.getElem_mem hi)
theorem C_grown {k : IntKind} {w W : World} {A : Option Addr} {n : Nat} {xs : List Int} {row : Option Nat} (h : Kd.C (Kd.int k) w A n xs) (hg : w.grownBy W row) (hne : ∀ ad, A = some ad → some ad.block ≠ row) : Kd.C (Kd.int k) W A n xs := by
  refine ⟨h.1, h.2.1, fun hn => ?_⟩
  obtain ⟨ad, e, hc⟩ := h.2.2 hn
  refine ⟨ad, e, fun j p hj => ?_⟩
  obtain ⟨c, hl, hK, hcell⟩ := hc j p hj
  refine ⟨c, hl, hK, fun i u hu => hg.cell (hcell i u hu) ?_⟩
  rw [add_block]
  exact hne ad e
theorem set_grown (w : World) (p : Addr) (u : Value) : w.grownBy (w.setCell p u) (some p.block) :=
  ⟨rfl, rfl, rfl, Nat.le_of_eq (by simp), fun k _ hk => Below.heap_setCell w p u k (fun e => hk (by rw [e]))⟩
theorem grown_under {B : Nat} {w W V : World} {row : Option Nat} (h : w.grownBy W row) (hb : Below B W V) (hB : w.heap.size ≤ B) : w.grownBy V row :=
  ⟨hb.os.trans h.os, hb.tape.trans h.tape, hb.output.trans h.output, Nat.le_trans h.size hb.size, fun k hk hne => (hb.block k (by omega)).trans (h.block k hk hne)⟩
theorem grown_drewN (w : World) (m : Nat) (row : Option Nat) : w.grownBy (w.drewN m) row := ⟨rfl, rfl, rfl, Nat.le_refl _, fun _ _ _ => rfl⟩
theorem grown_drawn {w W : World} (h : Drawn0 w W) (row : Option Nat) : w.grownBy W row := by
  obtain ⟨m, rfl⟩ := h
  exact grown_drewN w m row
theorem wrap_u64_nat (x : Nat) (h : x < 18446744073709551616) : IntKind.u64.wrap (x : Int) = (x : Int) := by
  simp [IntKind.wrap, IntKind.bits, IntKind.signed]
  omega
def Own (W : World) (base : Nat) (v : Value) (xs : List Int) : Prop := Kd.R (Kd.int .u8) 5 W base (fun k => base ≤ k) v xs
theorem info_u8 : (Try.prog.info? 5).map (fun i => (i.zero, i.size, i.bytes)) = some (some (.int .u8 0), 1, 1) := by kernel_rfl
theorem Own.nil (W : World) (base : Nat) : Own W base (.slice none 0 0) [] := Kd.R_nil _ _ _ _ _
theorem own_new {W : World} (base : Nat) (hb : base ≤ W.heap.size) : Own (W.alloc (.cells #[] 5)) base (.slice (some ⟨W.heap.size, 0, none⟩) 0 0) [] := by
  refine ⟨fun k hk => ?_, [], ?_, Reps.none _ _⟩
  · have : W.heap.size = k := by simpa [Value.ownBlock] using hk
    omega
  · have h2 := World.ownsRow_lit (base := base) (e := 5) (size := 1) W #[] 0 hb (by simp [maxLen]) (by simp)
    exact h2
section
variable {ops : Array Oper} {o : Oper} {a : Act} {Q : Exit → Act → World → Prop} {K : Act → World → Prop} {E : Prop}
theorem append_step {W : World} (base : Nat) (hgd : o.guard = none) (s x : Operand)
    (ho : o.op = .call { callee := .builtin .append, args := #[s, x], argTypes := #[42, 42] })
    (v : Value) (xs ys : List Int) (A : Option Addr) (m c : Nat) (hs : a.eval s = v) (hx : a.eval x = .slice A m c)
    (HO : Own W base v xs) (HR : Kd.C (Kd.int .u8) W A m ys) (hbase : base ≤ W.heap.size) (hl : xs.length + m ≤ 140737488355328)
    (h : ∀ v1 w1, Own w1 base v1 (xs ++ ys) → Below base W w1 → K (a.put o.dst v1) w1) : if Region.wanted o (yielded ops a.tmps) = true then Oper.wp Try.prog o a W K Q else E := by
  have hw : Region.wanted o (yielded ops a.tmps) = true := by simp [Region.wanted, hgd]
  have := Kd.R_append_rows_step (P := Try.prog) (Q := Q) (Kc := K) (Kd.int .u8) (Rr := (Kd.int .u8).K W) (w0 := W) base hw s x 42 5 (.int .u8 0) 1 ho Try.underlying42 info_u8 rfl (by decide) (by omega) v xs ys A m c (fun k => base ≤ k) (fun _ => False) hs hx HO HR
    (fun _ _ h => h) (fun _ h => h.elim) (fun k hk => Nat.le_trans hbase hk) (Below.refl _ _) hbase (by omega) (fun v1 w1 h1 h2 _ _ => h v1 w1 h1 h2)
  rw [if_pos hw] at this ⊢
  exact this
end
section
variable {ops : Array Oper} {o : Oper} {a : Act} {Q : Exit → Act → World → Prop} {rest : List Oper}
theorem append_list {W : World} (base : Nat) (hgd : o.guard = none) (s x : Operand)
    (ho : o.op = .call { callee := .builtin .append, args := #[s, x], argTypes := #[42, 42] })
    (v : Value) (xs ys : List Int) (A : Option Addr) (m c : Nat) (hs : a.eval s = v) (hx : a.eval x = .slice A m c)
    (HO : Own W base v xs) (HR : Kd.C (Kd.int .u8) W A m ys) (hbase : base ≤ W.heap.size) (hl : xs.length + m ≤ 140737488355328)
    (h : ∀ v1 w1, Own w1 base v1 (xs ++ ys) → Below base W w1 → W.grownBy w1 v.ownBlock → (v1.ownBlock = v.ownBlock ∨ ∃ b, v1.ownBlock = some b ∧ W.heap.size ≤ b) → wpList Try.prog ops Q rest (a.put o.dst v1) w1) : wpList Try.prog ops Q (o :: rest) a W :=
  Kd.R_append_rows (P := Try.prog) (Kd.int .u8) (Rr := (Kd.int .u8).K W) (w0 := W) base hgd s x 42 5 (.int .u8 0) 1 ho Try.underlying42 info_u8 rfl (by decide) (by omega) v xs ys A m c (fun k => base ≤ k) (fun _ => False) hs hx HO HR
    (fun _ _ h => h) (fun _ h => h.elim) (fun k hk => Nat.le_trans hbase hk) (Below.refl _ _) hbase (by omega) (fun v1 w1 h1 h2 h3 h4 => h v1 w1 h1 h2 h3 h4)
theorem append_one {W : World} (base : Nat) (hgd : o.guard = none) (s x : Operand)
    (ho : o.op = .call { callee := .builtin .append, args := #[s, x], argTypes := #[42, 42] })
    (v : Value) (xs : List Int) (p : Int) (hs : a.eval s = v) (hx : a.eval x = .slice (some ⟨W.heap.size, 0, none⟩) 1 1)
    (HO : Own W base v xs) (hbase : base ≤ W.heap.size) (hl : xs.length + 1 ≤ 140737488355328)
    (h : ∀ v1 w1, Own w1 base v1 (xs ++ [p]) → Below base W w1 → wpList Try.prog ops Q rest (a.put o.dst v1) w1) : wpList Try.prog ops Q (o :: rest) a (W.alloc (.cells #[.int .u8 p] 5)) :=
  Kd.R_append (P := Try.prog) (Kd.int .u8) (w0 := W) base hgd s x 42 5 (.int .u8 0) 1 ho Try.underlying42 info_u8 rfl (by decide) (by omega) v xs p [.int .u8 p] (fun k => base ≤ k) (fun _ => False) hs hx rfl (fun _ h => h.elim) (fun k hk => Nat.le_trans hbase hk) HO (Below.refl _ _) hbase (by omega)
    (fun v1 w1 h1 h2 _ _ => h v1 w1 h1 h2)
end
theorem own_cap {W : World} (base : Nat) (cs : Array Value) (m : Nat) (hb : base ≤ W.heap.size) (hm : m ≤ maxLen) (hs : cs.size = m) : Own (W.alloc (.cells cs 5)) base (.slice (some ⟨W.heap.size, 0, none⟩) 0 m) [] := by
  refine ⟨fun k hk => ?_, [], ⟨rfl, .inr ⟨W.heap.size, m, cs, rfl, hb, blk_new W _, Nat.zero_le _, hm, by show cs.size = m * 1; omega, by simp⟩⟩, Reps.none _ _⟩
  have : W.heap.size = k := by simpa [Value.ownBlock] using hk
  omega
theorem make_cap (n : Nat) (hn : n ≤ 281474976710656) : ∀ u : World, (Instr.makeSlice 42 (.int .i64 0) (.int .i64 (n : Int))).run Try.prog u = .ok (.slice (some ⟨u.heap.size, 0, none⟩) 0 n) (u.alloc (.cells (madeCells #[.int .u8 0] n) 5)) := fun u => by
  obtain ⟨i0, hi, hzz⟩ := Option.map_eq_some_iff.1 info_u8
  simp only [Prod.mk.injEq] at hzz
  obtain ⟨hz0, hz1, hz2⟩ := hzz
  have h := run_make (P := Try.prog) u 42 5 i0 (.int .u8 0) Try.underlying42 hi hz0 .i64 .i64 0 (n : Int) (by omega) (by omega) (by rw [hz2]; omega) (by omega)
  simpa [hz1, Value.cells] using h
theorem Own.reads {W : World} {base : Nat} {v : Value} {xs : List Int} (h : Own W base v xs) : ∃ A c, v = .slice A xs.length c ∧ xs.length ≤ c ∧ Kd.C (Kd.int .u8) W A xs.length xs ∧ ∀ ad, A = some ad → base ≤ ad.block ∧ ad.block < W.heap.size := by
  obtain ⟨A, c, e, hc, hC⟩ := Kd.R_reads h
  refine ⟨A, c, e, hc, hC, fun ad he => ?_⟩
  subst he
  have hk : v.ownBlock = some ad.block := by rw [e]; rfl
  obtain ⟨inner, ho⟩ := Kd.R_own h
  exact ⟨h.1 ad.block hk, own_lt ho _ hk⟩
theorem C_row_get {w : World} {A : Option Addr} {l : List (List Int)} (h : Kd.C (Kd.slice 5 (Kd.int .u8)) w A l.length l) (i : Nat) (hi : i < l.length) :
    ∃ (ad : Addr) (B : Option Addr) (c : Nat), A = some ad ∧ w.cell? (ad.add i) = some (.slice B l[i].length c) ∧ l[i].length ≤ c ∧ Kd.C (Kd.int .u8) w B l[i].length l[i] := by
  obtain ⟨ad, e, hc⟩ := h.2.2 (by omega)
  obtain ⟨cs, hl, ⟨B, c, hcs, hbc, hC⟩, hcell⟩ := hc i l[i] (List.getElem?_eq_getElem hi)
  subst hcs
  have := hcell 0 _ rfl
  rw [show i * (Kd.slice 5 (Kd.int .u8)).sz + 0 = i from by show i * 1 + 0 = i; omega] at this
  exact ⟨ad, B, c, e, this, hbc, hC⟩
theorem C_lit (W : World) (k : IntKind) (t : TypeId) (xs : List Int) (hl : xs.length ≤ 9223372036854775807) : Kd.C (Kd.int k) (W.alloc (.cells (xs.map (Value.int k)).toArray t)) (some ⟨W.heap.size, 0, none⟩) xs.length xs := by
  refine ⟨rfl, hl, fun _ => ⟨_, rfl, fun j p hj => ⟨[.int k p], rfl, rfl, fun i u hu => ?_⟩⟩⟩
  have hi : i = 0 ∧ u = .int k p := by
    match i, hu with
    | 0, hu => simp at hu; exact ⟨rfl, hu.symm⟩
    | i + 1, hu => simp at hu
  obtain ⟨rfl, rfl⟩ := hi
  have e : (⟨W.heap.size, 0, none⟩ : Addr).add (j * 1 + 0) = ⟨W.heap.size, j, none⟩ := by rw [add_plain]; simp
  show _ = _
  rw [show (Kd.int k).sz = 1 from rfl, e, blk_cell (blk_new W _) j]
  simp [hj]
theorem Own.below {w W : World} {base : Nat} {v : Value} {xs : List Int} (h : Own w base v xs) (hb : Below w.heap.size w W) : Own W base v xs := Kd.R_below h hb
def FormPost (xs : List Int) (w : World) (e : Ending) (w' : World) : Prop := ∃ v : Value, e = .returned v ∧ Own w' w.heap.size v xs ∧ Below w.heap.size w w'
def Rows (W : World) (base : Nat) (v : Value) (l : List (List Int)) : Prop := Kd.S (Kd.slice 5 (Kd.int .u8)) 42 W base (fun _ => True) v l
theorem info_row : (Try.prog.info? 42).map (fun i => (i.zero, i.size, i.bytes)) = some (some (.slice none 0 0), 1, 24) := by kernel_rfl
theorem Rows.nil (W : World) (base : Nat) : Rows W base (.slice none 0 0) [] := Kd.S_nil _ _ _ _ _
theorem Rows.below {w W : World} {base : Nat} {v : Value} {l : List (List Int)} (h : Rows w base v l) (hb : Below w.heap.size w W) : Rows W base v l := Kd.S_below h hb
theorem Rows.grown {w W : World} {base g : Nat} {v : Value} {l : List (List Int)} (h : Rows w base v l) (hb : w.grownBy W (some g)) (hg : g < base) : Rows W base v l :=
  Kd.S_mono (Kd.S_step (Kd.S_bound h) (fun k hk hlt => hb.block k hlt (fun e => by have h1 := hk.2.1; have h2 := Option.some.inj e; omega))) (fun _ _ => trivial)
theorem Own.grown {w W : World} {base g : Nat} {v : Value} {xs : List Int} (h : Own w base v xs) (hb : w.grownBy W (some g)) (hg : g < base) : Own W base v xs :=
  Kd.R_grown h hb (fun k hk e => by have h2 := Option.some.inj e; omega)
theorem Own.lower {w : World} {base base' : Nat} {v : Value} {xs : List Int} (h : Own w base v xs) (hb : base' ≤ base) : Own w base' v xs := Kd.R_mono (Kd.R_lower h hb) (fun _ hk => Nat.le_trans hb hk)
section
variable {ops : Array Oper} {o : Oper} {a : Act} {Q : Exit → Act → World → Prop} {rest : List Oper}
theorem rows_append {W1 W : World} (base : Nat) (hgd : o.guard = none) (s x : Operand) (t : TypeId)
    (ho : o.op = .call { callee := .builtin .append, args := #[s, x], argTypes := #[t, t] }) (ht : Try.prog.underlying t = some (.slice 42))
    (v : Value) (l : List (List Int)) (u : Value) (y : List Int) (hs : a.eval s = v) (hx : a.eval x = .slice (some ⟨W.heap.size, 0, none⟩) 1 1)
    (HO : Rows W1 base v l) (hsz : W1.heap.size ≤ W.heap.size) (hm : ∀ k, base ≤ k → k < W1.heap.size → W.heap[k]? = W1.heap[k]?) (HE : Own W W1.heap.size u y) (hbase : base ≤ W1.heap.size) (hl : (l.length + 1) * 24 ≤ 140737488355328)
    (h : ∀ v1 w1, Rows w1 base v1 (l ++ [y]) → Below base W w1 → wpList Try.prog ops Q rest (a.put o.dst v1) w1) : wpList Try.prog ops Q (o :: rest) a (W.alloc (.cells #[u] 42)) := by
  obtain ⟨A2, c2, rfl⟩ := Kd.R_slice HE
  have hlt : ∀ k, v.ownBlock = some k → k < W1.heap.size := Kd.S_lt HO
  have hge : ∀ k, (Value.slice A2 y.length c2).ownBlock = some k → W1.heap.size ≤ k := fun k hk => HE.1 k hk
  have hne : ∀ k, (Value.slice A2 y.length c2).ownBlock = some k → some k ≠ v.ownBlock := fun k hk e => by have := hge k hk; have := hlt k e.symm; omega
  refine Kd.S_append (P := Try.prog) (Kd.slice 5 (Kd.int .u8)) (w0 := W) base hgd s x t 42 (.slice none 0 0) 24 ho ht info_row rfl (by decide) (by omega) v l y [.slice A2 y.length c2] (fun _ => True) (fun k => some k = (Value.slice A2 y.length c2).ownBlock) hs hx
    (Kd.M_row (Kd.R_tight rfl (Kd.R_lower HE hbase))) (fun k hk => ⟨trivial, hne k hk.symm⟩) (fun _ _ => trivial) ?_ (Below.refl _ _) (Nat.le_trans hbase hsz) hl (fun v1 w1 h1 h2 _ _ => h v1 w1 h1 h2)
  exact Kd.S_mono (Kd.S_step (Kd.S_bound HO) (fun k hk hlt => hm k hk.2.1 hlt)) (fun k hk => ⟨trivial, fun e => by have h1 := hge k e.symm; have h2 := hk.2.2.1; omega⟩)
end
theorem run_equalIn_func_nil {t : TypeId} {ps rs : Array TypeId} {v : Bool} (ht : Try.prog.underlying t = some (.func ps rs v)) (d : Nat) (f : FuncId) (a b : Array Value) (w : World) : (Op.equalIn (d + 1) t (.func (.func f) a b) .nilFunc).run Try.prog w = .ok false w := by
  simp [Op.equalIn, run_underlying ht]
theorem run_eql_func_nil {t : TypeId} {ps rs : Array TypeId} {v : Bool} (ht : Try.prog.underlying t = some (.func ps rs v)) (f : FuncId) (a b : Array Value) (w : World) : (Go.binOp .eql t (.func (.func f) a b) .nilFunc).run Try.prog w = .ok (.bool false) w := by
  simp only [Go.binOp]
  simp [Op.equal, Op.maxDepth, run_equalIn_func_nil ht 9999]
/-! ### cells of structs in a row -/
theorem add_next (ad : Addr) (i j : Nat) : ad.add (i + (j + 1)) = ⟨(ad.add i).block, (ad.add i).off + (j + 1), none⟩ := by
  unfold Addr.add
  rw [if_neg (by omega)]
  by_cases h0 : i = 0
  · rw [if_pos h0, h0, Nat.zero_add]
  · rw [if_neg h0]
    simp [Nat.add_assoc]
theorem next_cell {W : World} {ad : Addr} {i j : Nat} {v : Value} (h : W.cell? (ad.add (i + (j + 1))) = some v) : W.cell? ⟨(ad.add i).block, (ad.add i).off + (j + 1), none⟩ = some v := by
  rw [← add_next]
  exact h
theorem keep_cell {w W : World} {g B i : Nat} {v : Value} (hg : w.grownBy W (some g)) (h : w.cell? ⟨B, i, none⟩ = some v) (hne : B ≠ g) : W.cell? ⟨B, i, none⟩ = some v := hg.cell h (by simpa using hne)
end Go.Proofs.Ytecdnhmdodedmaa.Rd
