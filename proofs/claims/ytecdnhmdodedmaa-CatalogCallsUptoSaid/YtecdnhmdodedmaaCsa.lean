/- What the laws of this seat share: a job that is read, rows' bulk, and what the references of rows answer. -/
import Derived.Test.YtecdnhmdodedmaaCq
import Derived.Test.YtecdnhmdodedmaaCn
import Derived.Test.YtecdnhmdodedmaaOpu
namespace Go.Proofs.Ytecdnhmdodedmaa.Ch
open Go.RowKit Go.Proofs.YtecdnhmdodedmaaW.PrintWords Go.Proofs.YtecdnhmdodedmaaW.PrintLast Go.Proofs.YtecdnhmdodedmaaW.PrintMore Go.Proofs.Ytecdnhmdodedmaa.HS Go.Proofs.Ytecdnhmdodedmaa.Ca Go.Proofs.Ytecdnhmdodedmaa.It
set_option linter.unusedVariables false
set_option linter.unusedSimpArgs false
abbrev kj : Kd (Int × Int × Int × Int × Int × Int × List Int) := Kd.pair (Kd.int .i64) (Kd.pair (Kd.int .i64) (Kd.pair (Kd.int .i64) (Kd.pair (Kd.int .i64) (Kd.pair (Kd.int .i64) (Kd.pair (Kd.int .i64) (Kd.slice 3 (Kd.int .i64)))))))
def jobX (x : Int × Int × Int × Int × Int × Int × List Int) : Job := ⟨x.1, x.2.1, x.2.2.1, x.2.2.2.1, x.2.2.2.2.1, x.2.2.2.2.2.1, x.2.2.2.2.2.2⟩
theorem job_open {W : World} {x : Int × Int × Int × Int × Int × Int × List Int} {cs : Array Value} (h : kj.K W x cs.toList) : ∃ A n, cs = (jobX x).v A n ∧ (jobX x).In W A n := by
  obtain ⟨_, _, e, rfl, ⟨_, _, rfl, rfl, ⟨_, _, rfl, rfl, ⟨_, _, rfl, rfl, ⟨_, _, rfl, rfl, ⟨_, _, rfl, rfl, ⟨A, n, rfl, hn, hC⟩⟩⟩⟩⟩⟩⟩ := h
  exact ⟨A, n, by rw [← Array.toArray_toList (xs := cs), e]; rfl, hC, hn⟩
theorem len_le {α : Type} {b : α → Nat} : ∀ (l : List (List α)), l.length ≤ Opn.sumOf (Opn.bkL b) l
  | [] => by simp
  | x :: l => by
    have := len_le (b := b) l
    rw [Opn.sumOf_cons, List.length_cons]
    have h : 1 ≤ Opn.bkL b x := by unfold Opn.bkL; omega
    omega
theorem rows_le (l : List (List Int)) (h : Opn.bkL (Opn.bkL Opn.bk1) l ≤ 1048576) : l.length ≤ 1048576 ∧ ∀ f ∈ l, f.length ≤ 1048576 := by
  have h1 := len_le (b := Opn.bk1) l
  have e : Opn.bkL (Opn.bkL Opn.bk1) l = Opn.sumOf (Opn.bkL Opn.bk1) l + 1 := rfl
  refine ⟨by omega, fun f hf => ?_⟩
  have h2 := Opn.le_sumOf (b := Opn.bkL Opn.bk1) hf
  have h3 : Opn.bkL Opn.bk1 f = f.length + 1 := congrArg (· + 1) (Opn.sumOf_length f)
  omega
theorem drop_rdL (r : List (List Int)) (i : Nat) (h : i < r.length) : r.drop i = rd_L2 r (i : Int) :: r.drop (i + 1) := by
  rw [List.drop_eq_getElem_cons h]
  simp [rd_L2, List.getD, h]
theorem size_l0 (r : List (List Int)) (hr : r.length ≤ 1048576) : ∀ (n i K : Nat) (x : Int), i + n = r.length → n + 1 ≤ K → ∃ v, garnerref13_Size.l0 K r x (i : Int) = some v
  | _, _, 0, _, _, h => by omega
  | 0, i, K + 1, x, h, _ => ⟨x, by rw [garnerref13_Size.l0, if_neg (by omega)]⟩
  | n + 1, i, K + 1, x, h, hK => by
    rw [garnerref13_Size.l0, if_pos (by omega)]
    by_cases hx : x < 1048576
    · rw [if_pos hx, if_pos (by omega), step64 i _ (show i < r.length by omega) hr]
      exact size_l0 r hr n (i + 1) K _ (by omega) (by omega)
    · rw [if_neg hx]; exact ⟨x, rfl⟩
theorem size_call (A : Option Addr) (c : Nat) (r : List (List Int)) (hr : r.length ≤ 1048576) : ∃ v : Int, ∀ (w : World), Kd.C (Kd.slice 5 (Kd.int .u8)) w A r.length r → r.length ≤ c → Calls Try.prog 18 #[.slice A r.length c] w fun e w' => e = .returned (.int .i64 v) ∧ Below w.heap.size w w' := by
  obtain ⟨v, hv⟩ := size_l0 r hr r.length 0 (r.length + 1) (r.length : Int) (by omega) (by omega)
  exact ⟨v, fun w h1 h2 => garnerref13_Size.calls (r.length + 1) A c r v w h1 h2 hv⟩
theorem copy_l0 (r : List (List Int)) (hr : r.length ≤ 1048576) (hf : ∀ f ∈ r, f.length ≤ 1048576) : ∀ (n i K : Nat) (acc : List (List Int)), i + n = r.length → acc.length ≤ i → n + 1 ≤ K → garnerref13_Copy.l0 K r acc (i : Int) = some (acc ++ r.drop i)
  | _, _, 0, _, _, _, h => by omega
  | 0, i, K + 1, acc, h, _, _ => by rw [garnerref13_Copy.l0, if_neg (by omega), List.drop_eq_nil_of_le (by omega), List.append_nil]
  | n + 1, i, K + 1, acc, h, h2, hK => by
    have := hf _ (rd_L2_mem r i (by omega))
    rw [garnerref13_Copy.l0, if_pos (by omega), if_pos (by omega), if_pos (by simp only [List.length_nil]; omega), if_pos (by omega), step64 i _ (show i < r.length by omega) hr, copy_l0 r hr hf n (i + 1) K _ (by omega) (by rw [List.length_append]; simp; omega) (by omega), drop_rdL r i (by omega)]
    simp
theorem copy_call (A : Option Addr) (c : Nat) (r : List (List Int)) (hr : r.length ≤ 1048576) (hf : ∀ f ∈ r, f.length ≤ 1048576) (w : World) (h1 : Kd.C (Kd.slice 5 (Kd.int .u8)) w A r.length r) (h2 : r.length ≤ c) : Calls Try.prog 19 #[.slice A r.length c] w fun e w' => ∃ B d, e = .returned (.slice B r.length d) ∧ r.length ≤ d ∧ Kd.C (Kd.slice 5 (Kd.int .u8)) w' B r.length r ∧ Below w.heap.size w w' :=
  (garnerref13_Copy.calls (r.length + 1) A c r r w h1 h2 (by have := copy_l0 r hr hf r.length 0 (r.length + 1) [] (by omega) (by simp) (by omega); rwa [List.drop_zero, List.nil_append] at this)).mono fun e w' ⟨v, he, hS, hb⟩ => by
    obtain ⟨B, d, hv, hl, hC⟩ := Kd.R_reads (Kd.S_R hS)
    exact ⟨B, d, by rw [he, hv], hl, hC, hb⟩
theorem sameE_l0 (r : List S62) (hr : r.length ≤ 1048576) : ∀ (n i K : Nat), i + n = r.length → n + 1 ≤ K → garnerref16_SameEntries.l0 K r r (i : Int) = some true
  | _, _, 0, _, h => by omega
  | 0, i, K + 1, h, _ => by rw [garnerref16_SameEntries.l0, if_neg (by omega)]
  | n + 1, i, K + 1, h, hK => by
    rw [garnerref16_SameEntries.l0, if_pos (by omega), if_pos (by omega), if_pos (by omega), if_pos rfl, if_pos rfl, step64 i _ (show i < r.length by omega) hr, sameE_l0 r hr n (i + 1) K (by omega) (by omega)]
theorem sameEnt_call (A B : Option Addr) (c d : Nat) (r : List S62) (hr : r.length ≤ 1048576) (w : World) (h1 : Kd.C k62 w A r.length r) (h2 : r.length ≤ c) (h3 : Kd.C k62 w B r.length r) (h4 : r.length ≤ d) : Calls Try.prog 24 #[.slice A r.length c, .slice B r.length d] w fun e w' => e = .returned (.bool true) ∧ Drawn0 w w' :=
  same_call (r.length + 1) A B c d r r true (by unfold garnerref16_SameEntries.f; rw [if_pos rfl]; exact sameE_l0 r hr r.length 0 _ (by omega) (by omega)) w h1 h2 h3 h4
end Go.Proofs.Ytecdnhmdodedmaa.Ch
