/- garnerref16.without, Entries, Changes: what they answer. -/
import Derived.Test.YtecdnhmdodedmaaCi
import Derived.Test.YtecdnhmdodedmaaCg
import Derived.Test.YtecdnhmdodedmaaHSx5
import Derived.Test.YtecdnhmdodedmaaHSx6
namespace Go.Proofs.Ytecdnhmdodedmaa.Ch
open Go.RowKit Go.Proofs.YtecdnhmdodedmaaW.PrintWords Go.Proofs.YtecdnhmdodedmaaW.PrintLast Go.Proofs.YtecdnhmdodedmaaW.PrintMore Go.Proofs.Ytecdnhmdodedmaa.HS Go.Proofs.Ytecdnhmdodedmaa.Ca Go.Proofs.Ytecdnhmdodedmaa.It
set_option linter.unusedVariables false
set_option linter.unusedSimpArgs false
theorem drop_rd62 (ts : List S62) (i : Nat) (h : i < ts.length) : ts.drop i = rd_T62 ts (i : Int) :: ts.drop (i + 1) := by
  rw [List.drop_eq_getElem_cons h]
  simp [rd_T62, List.getD, h]
theorem wo_l1 (a b : List S62) (ha : a.length ≤ 1048576) (hb : b.length ≤ 1048576) (k : Nat) (hk : k < a.length) (acc : List S62) (hacc : acc.length ≤ 1048576) : ∀ (n i K : Nat) (q : Bool), i + n = b.length →
    garnerref16_without.l1 (K + n + 1) a b acc (k : Int) q (i : Int) = garnerref16_without.l0 K a b (if (q || (b.drop i).any (same62 (rd_T62 a (k : Int)))) = true then acc else acc ++ [rd_T62 a (k : Int)]) ((k + 1 : Nat) : Int)
  | 0, i, K, q, h => by
    rw [garnerref16_without.l1, if_neg (by omega), List.drop_eq_nil_of_le (by omega), step64 k _ hk ha]
    cases q with
    | true => rfl
    | false => rw [if_neg (by simp), if_pos (by omega), if_pos (by omega), if_pos (by omega)]; rfl
  | n + 1, i, K, q, h => by
    have ih := fun q => wo_l1 a b ha hb k hk acc hacc n (i + 1) K q (by omega)
    rw [garnerref16_without.l1, if_pos (by omega), step64 i _ (show i < b.length by omega) hb, drop_rd62 b i (by omega), List.any_cons]
    cases q with
    | true => rw [if_pos rfl, show K + (n + 1) = K + n + 1 by omega, ih]; simp
    | false =>
      rw [if_neg (by simp), if_pos (by omega), if_pos (by omega), if_pos (by omega), show K + (n + 1) = K + n + 1 by omega, ih, ih]
      unfold same62 txt
      by_cases e : (rd_T62 a (k : Int)).f0 = (rd_T62 b (i : Int)).f0
      · rw [if_pos e, beq_iff_eq.2 e]; simp
      · rw [if_neg e, beq_eq_false_iff_ne.2 e]; simp
theorem wo_l0 (a b : List S62) (ha : a.length ≤ 1048576) (hb : b.length ≤ 1048576) : ∀ (n k K : Nat) (acc : List S62), k + n = a.length → acc.length ≤ k → n * (b.length + 2) + 1 ≤ K →
    garnerref16_without.l0 K a b acc (k : Int) = some (acc ++ withoutL (a.drop k) b)
  | _, _, 0, _, _, _, h => by omega
  | 0, k, K + 1, acc, h, _, _ => by
    rw [garnerref16_without.l0, if_neg (by omega), List.drop_eq_nil_of_le (by omega)]
    simp [withoutL]
  | n + 1, k, K + 1, acc, h, h2, h3 => by
    have hm : (n + 1) * (b.length + 2) = n * (b.length + 2) + (b.length + 2) := by rw [Nat.add_mul]; omega
    rw [garnerref16_without.l0, if_pos (by omega)]
    have h1 := wo_l1 a b ha hb k (by omega) acc (by omega) b.length 0 (K - (b.length + 1)) false (by omega)
    rw [show K - (b.length + 1) + b.length + 1 = K by omega] at h1
    rw [show (0 : Int) = ((0 : Nat) : Int) from rfl, h1, Bool.false_or, List.drop_zero, drop_rd62 a k (by omega)]
    have ih := fun acc' (h' : acc'.length ≤ k + 1) => wo_l0 a b ha hb n (k + 1) (K - (b.length + 1)) acc' (by omega) h' (by omega)
    unfold withoutL at ih ⊢
    rw [List.filter_cons]
    cases hx : b.any (same62 (rd_T62 a (k : Int))) with
    | true => rw [if_pos rfl, ih _ (by omega)]; simp
    | false => rw [if_neg (by simp), ih _ (by simp; omega)]; simp
theorem refWithout_is (a b : List S62) (ha : a.length ≤ 1048576) (hb : b.length ≤ 1048576) (K : Nat) (hK : a.length * (b.length + 2) + 1 ≤ K) : garnerref16_without.f K a b = some (withoutL a b) := by
  have h := wo_l0 a b ha hb a.length 0 K [] (by omega) (by simp) hK
  rw [List.drop_zero, List.nil_append] at h
  exact h
theorem heap62 : Kd.Heap k62 := Kd.heap_iso _ (Kd.heap_pair (Kd.heap_int _) (Kd.heap_slice _ (Kd.heap_int _)))
theorem refWithout (A B : Option Addr) (c d : Nat) (l m : List S62) (w : World) (hA : Kd.C k62 w A l.length l) (hc : l.length ≤ c) (hB : Kd.C k62 w B m.length m) (hd : m.length ≤ d) (hl : l.length ≤ 1048576) (hm : m.length ≤ 1048576) :
    Calls Try.prog 51 #[.slice A l.length c, .slice B m.length d] w (EntP (withoutL l m) w) :=
  (garnerref16_without.calls _ (fun k => k < w.heap.size) A c l B d m (withoutL l m) w (Kd.V_mk hc (Kd.C_F heap62 hA)) hB hd (refWithout_is l m hl hm _ (Nat.le_refl _))).mono fun e w' ⟨v, he, hN, hb⟩ => by
    obtain ⟨A', c', hv, hl', hF⟩ := Kd.N_V (base' := 0) hN
    exact ⟨A', c', by rw [he, hv], hl', Kd.F_now hF, hb⟩
end Go.Proofs.Ytecdnhmdodedmaa.Ch
