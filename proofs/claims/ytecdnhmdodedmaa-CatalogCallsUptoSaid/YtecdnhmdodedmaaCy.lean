/- The law CatalogCalls, as its row asks for it. -/
import Derived.Test.YtecdnhmdodedmaaCx
namespace Go.Proofs.Ytecdnhmdodedmaa.Ch
open Go.RowKit Go.Proofs.YtecdnhmdodedmaaW.PrintWords Go.Proofs.YtecdnhmdodedmaaW.PrintLast Go.Proofs.YtecdnhmdodedmaaW.PrintMore Go.Proofs.Ytecdnhmdodedmaa.HS Go.Proofs.Ytecdnhmdodedmaa.Ca Go.Proofs.Ytecdnhmdodedmaa.It
set_option linter.unusedVariables false
set_option linter.unusedSimpArgs false
abbrev bO : PO → Nat := fun v => (Opn.bk1 v.1 + (Opn.bk1 v.2.1 + (Opn.bk1 v.2.2.1 + (Opn.bkL Opn.bk1 v.2.2.2.1 + (Opn.bkL Opn.bk1 v.2.2.2.2.1 + (Opn.bk1 v.2.2.2.2.2.1 + Opn.bkL (Opn.bkL Opn.bk1) v.2.2.2.2.2.2)))))) + 1
abbrev bT : PT → Nat := fun v => (Opn.bkL bO v.1 + (Opn.bk1 v.2.1 + Opn.bk1 v.2.2)) + 1
theorem len_le2 {α : Type} {b : α → Nat} (hb : ∀ x, 1 ≤ b x) : ∀ (l : List α), l.length ≤ Opn.sumOf b l
  | [] => by simp
  | x :: l => by
    have := len_le2 hb l
    have := hb x
    rw [Opn.sumOf_cons, List.length_cons]
    omega
theorem bkL_is {α : Type} (b : α → Nat) (l : List α) : Opn.bkL b l = Opn.sumOf b l + 1 := rfl
theorem gO_ok (v : PO) (h : bO v ≤ 1048576) : (gO v).f3.length ≤ 1048576 ∧ (gO v).f4.length ≤ 1048576 ∧ (gO v).f6.length ≤ 1048576 := by
  obtain ⟨a, b, c, e, f, g, i⟩ := v
  have h3 : Opn.bkL Opn.bk1 e = e.length + 1 := congrArg (· + 1) (Opn.sumOf_length e)
  have h4 : Opn.bkL Opn.bk1 f = f.length + 1 := congrArg (· + 1) (Opn.sumOf_length f)
  have h6 := len_le (b := Opn.bk1) i
  have e6 := bkL_is (Opn.bkL Opn.bk1) i
  dsimp only [bO] at h
  refine ⟨?_, ?_, ?_⟩
  · show e.length ≤ _; omega
  · show f.length ≤ _; omega
  · show i.length ≤ _; omega
theorem gT_ok (v : PT) (h : bT v ≤ 1048576) : TOk (gT v) := by
  obtain ⟨l, b, c⟩ := v
  have e := bkL_is bO l
  have h1 := len_le2 (b := bO) (fun x => Nat.le_add_left 1 _) l
  dsimp only [bT] at h
  refine ⟨?_, fun o ho => ?_⟩
  · show (l.map gO).length ≤ _
    rw [List.length_map]
    omega
  · obtain ⟨x, hx, rfl⟩ := List.mem_map.1 ho
    have h2 : bO x ≤ Opn.sumOf bO l := Opn.le_sumOf (b := bO) hx
    exact gO_ok x (by omega)
theorem gS_ok (s : List PT) (h : Opn.bkL bT s ≤ 1048576) : SOk (s.map gT) := by
  have e := bkL_is bT s
  have h1 := len_le2 (b := bT) (fun x => Nat.le_add_left 1 _) s
  refine ⟨by rw [List.length_map]; omega, fun t ht => ?_⟩
  obtain ⟨x, hx, rfl⟩ := List.mem_map.1 ht
  have h2 := Opn.le_sumOf (b := bT) hx
  exact gT_ok x (by omega)
theorem calls_law (x : Int × Int × Int × Int × Int × Int × List Int) (cs : Array Value) (l : List (List PT)) (B : Option Addr) (d : Nat) (W : World) (h : kj.K W x cs.toList) (hl : x.2.2.2.2.2.2.length ≤ 1048576)
    (hB : Kd.C (Kd.slice 74 kt) W B l.length l) (hd : l.length ≤ d) (hz : Opn.bkL (Opn.bkL bT) l ≤ 1048576) :
    Calls Try.prog 6 #[.agg cs, .slice B l.length d] W (TrueP W) := by
  obtain ⟨A, n, rfl, hj⟩ := job_open h
  have e := bkL_is (Opn.bkL bT) l
  have h1 := len_le2 (b := Opn.bkL bT) (fun x => Nat.le_add_left 1 _) l
  have hC := map_s hB
  have hlen : (l.map (List.map gT)).length = l.length := List.length_map ..
  have := callsLaw_walk (jobX x) A n (l.map (List.map gT)) B d W hj (by rw [hlen]; exact hd) (by rw [hlen]; exact hC) hl (by rw [hlen]; omega) (fun s hs => by
    obtain ⟨y, hy, rfl⟩ := List.mem_map.1 hs
    have h2 := Opn.le_sumOf (b := Opn.bkL bT) hy
    exact gS_ok y (by omega))
  rw [hlen] at this
  exact this
end Go.Proofs.Ytecdnhmdodedmaa.Ch
