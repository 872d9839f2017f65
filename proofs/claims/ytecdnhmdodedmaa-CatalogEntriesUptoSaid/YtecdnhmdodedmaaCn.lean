/- garnerref16.Entries and Changes, catalog.Changes: what they answer. -/
import Derived.Test.YtecdnhmdodedmaaCl
import Derived.Test.YtecdnhmdodedmaaCm
namespace Go.Proofs.Ytecdnhmdodedmaa.Ch
open Go.RowKit Go.Proofs.YtecdnhmdodedmaaW.PrintWords Go.Proofs.YtecdnhmdodedmaaW.PrintLast Go.Proofs.YtecdnhmdodedmaaW.PrintMore Go.Proofs.Ytecdnhmdodedmaa.HS Go.Proofs.Ytecdnhmdodedmaa.Ca Go.Proofs.Ytecdnhmdodedmaa.It
set_option linter.unusedVariables false
set_option linter.unusedSimpArgs false
theorem refMay_j1 (r : List (List Int)) (hr : r.length ≤ 1048576) (i K : Nat) : garnerref13_May.j1 (K + 1) r (i : Int) false = some (decide (1 ≤ r.length) && decide (r.length ≤ 3)) := by
  rw [garnerref13_May.j1, if_neg (by simp)]
  by_cases h1 : 1 ≤ r.length
  · rw [if_pos (by omega), decide_eq_true h1]
    by_cases h2 : r.length ≤ 3
    · rw [decide_eq_true h2, decide_eq_true (by omega)]; rfl
    · rw [decide_eq_false h2, decide_eq_false (by omega)]; rfl
  · rw [if_neg (by omega), decide_eq_false h1]; rfl
theorem refMay_l0 (r : List (List Int)) (hr : r.length ≤ 1048576) : ∀ (n i K : Nat), i + n = r.length → (∀ q, q < i → (rd_L2 r (q : Int)).length ≤ 24) → 2 * n + 2 ≤ K → garnerref13_May.l0 K r (i : Int) = some (mayB r)
  | _, _, 0, _, _, h => by omega
  | _, _, 1, _, _, h => by omega
  | 0, i, K + 2, h, hq, hK => by
    rw [garnerref13_May.l0, if_neg (by omega), refMay_j1 r hr]
    unfold mayB
    have : (r.all fun f => decide (f.length ≤ 24)) = true := by
      rw [List.all_eq_true]
      intro f hf
      obtain ⟨q, hql, rfl⟩ := List.mem_iff_getElem.1 hf
      have := hq q (by omega)
      rw [show rd_L2 r (q : Int) = r[q] by simp [rd_L2, List.getD, hql]] at this
      exact decide_eq_true this
    rw [this]
    simp
  | n + 1, i, K + 2, h, hq, hK => by
    rw [garnerref13_May.l0, if_pos (by omega)]
    by_cases h4 : i < 4
    · rw [decide_eq_true (by omega), garnerref13_May.j1, if_pos rfl, if_pos (by omega), if_pos (by omega), step64 i _ (show i < r.length by omega) hr]
      by_cases hl : ((rd_L2 r (i : Int)).length : Int) > 24
      · rw [if_pos hl]
        have : mayB r = false := by
          rw [Bool.eq_false_iff]
          intro hm
          have := ((mayB_iff r).1 hm).2.2 _ (rd_L2_mem r i (by omega))
          omega
        rw [this]
      · rw [if_neg hl, refMay_l0 r hr n (i + 1) K (by omega) (fun q hq2 => by
          by_cases e : q = i
          · subst e; omega
          · exact hq q (by omega)) (by omega)]
    · rw [decide_eq_false (by omega), refMay_j1 r hr]
      have : mayB r = false := by
        rw [Bool.eq_false_iff]
        intro hm
        have := ((mayB_iff r).1 hm).2.1
        omega
      rw [this, decide_eq_false (show ¬ r.length ≤ 3 by omega), Bool.and_false]
theorem refMay_is (r : List (List Int)) (hr : r.length ≤ 1048576) (K : Nat) (hK : 2 * r.length + 2 ≤ K) : garnerref13_May.f K r = some (mayB r) := refMay_l0 r hr r.length 0 K (by omega) (fun q h => by omega) hK
theorem refFront_l0 (f : List Int) (hf : f.length ≤ 1048576) : ∀ (n i K : Nat) (acc : List Int), i + n = f.length → acc.length ≤ 2 * i → n + 1 ≤ K → garnerref13_Front.l0 K f acc (i : Int) = some (acc ++ frontB (f.drop i))
  | _, _, 0, _, _, _, h => by omega
  | 0, i, K + 1, acc, h, _, _ => by
    rw [garnerref13_Front.l0, if_neg (by omega), List.drop_eq_nil_of_le (by omega)]
    simp [frontB]
  | n + 1, i, K + 1, acc, h, h2, hK => by
    have ih := fun acc' (h' : acc'.length ≤ 2 * (i + 1)) => refFront_l0 f hf n (i + 1) K acc' (by omega) h' (by omega)
    rw [garnerref13_Front.l0, if_pos (by omega), if_pos (by omega), if_pos (by omega), Option.bind_some, step64 i _ (show i < f.length by omega) hf, drop_rd f i (by omega)]
    have hc : frontB (rd f (i : Int) :: f.drop (i + 1)) = (if rd f (i : Int) = 0 then [rd f (i : Int), 255] else [rd f (i : Int)]) ++ frontB (f.drop (i + 1)) := rfl
    rw [hc]
    by_cases e : rd f (i : Int) = 0
    · rw [if_pos e, if_pos (by rw [List.length_append]; simp; omega), ih _ (by simp; omega), if_pos e]; simp
    · rw [if_neg e, ih _ (by simp; omega), if_neg e]; simp
theorem refFront_is (f : List Int) (hf : f.length ≤ 1048576) (K : Nat) (hK : f.length + 1 ≤ K) : garnerref13_Front.f K f = some (frontB f) := by
  have := refFront_l0 f hf f.length 0 K [] (by omega) (by simp) hK
  rwa [List.drop_zero, List.nil_append] at this
theorem refEntry_is (f k : List Int) (hf : f.length ≤ 1048576) (hk : k.length ≤ 1048576) (K : Nat) (hK : f.length + 1 ≤ K) : garnerref13_Entry.f K f k = some (entryL f k) := by
  unfold garnerref13_Entry.f
  have := frontB_len f
  rw [refFront_is f hf K hK]
  simp only [Option.bind_some]
  rw [if_pos (by simp only [List.length_cons, List.length_nil]; omega), if_pos (by simp only [List.length_append, List.length_cons, List.length_nil]; omega)]
  rfl
theorem rowMayKey_f (k : List Int) : garnerref13_MayKey.f k = some (keyB k) := by
  unfold garnerref13_MayKey.f keyB
  by_cases h1 : 1 ≤ k.length
  · rw [if_pos (by omega), decide_eq_true h1]
    by_cases h2 : k.length ≤ 32
    · rw [decide_eq_true h2, decide_eq_true (by omega)]; rfl
    · rw [decide_eq_false h2, decide_eq_false (by omega)]; rfl
  · rw [if_neg (by omega), decide_eq_false h1]; rfl
theorem refEnt_l0 (j : Job) (hts : j.ts.length ≤ 1048576) (t : Int) (key : List Int) (hkey : key.length ≤ 1048576) (r : List (List Int)) (ht0 : 0 ≤ t) (ht1 : t < (j.ts.length : Int)) (hx0 : 0 ≤ rd j.ts t) (hx2 : rd j.ts t ≤ 2) (hr : ∀ f ∈ r, f.length ≤ 24) (hr3 : r.length ≤ 3) :
    ∀ (n i K : Nat), i + n = entN j t r → 2 * n + j.ts.length + 60 ≤ K → garnerref16_Entries.l0 K t key r (entF j t key r i) (i : Int) j.w j.l j.wi j.c j.d j.e j.ts = some (entF j t key r (entN j t r), 0)
  | n, i, 0, _, h => by omega
  | n, i, 1, _, h => by omega
  | 0, i, K + 2, h, hK => by
    have hN : entN j t r = min (rd j.ts t).toNat (r.length - 1) := rfl
    rw [garnerref16_Entries.l0, if_pos ht0, if_pos ht1]
    by_cases hlt : (i : Int) < rd j.ts t
    · rw [if_pos hlt, show wrap64 ((i : Int) + 1) = ((i + 1 : Nat) : Int) by unfold wrap64; omega, decide_eq_false (by omega), garnerref16_Entries.j2, if_neg (by simp)]
      rw [show i = entN j t r by omega]
    · rw [if_neg hlt, garnerref16_Entries.j2, if_neg (by simp)]
      rw [show i = entN j t r by omega]
  | n + 1, i, K + 2, h, hK => by
    have hN : entN j t r = min (rd j.ts t).toNat (r.length - 1) := rfl
    have hlt : i + 1 < r.length := by omega
    rw [garnerref16_Entries.l0, if_pos ht0, if_pos ht1, if_pos (by omega), show wrap64 ((i : Int) + 1) = ((i + 1 : Nat) : Int) by unfold wrap64; omega, decide_eq_true (by omega), garnerref16_Entries.j2, if_pos rfl]
    rw [refTree_is j hts t (i : Int) K (by omega), Option.bind_some, show wrap64 ((i : Int) + 1) = ((i + 1 : Nat) : Int) by unfold wrap64; omega, if_pos (by omega), if_pos (by omega)]
    have hf := hr _ (rd_L2_mem r (i + 1) hlt)
    rw [refEntry_is _ key (by omega) hkey K (by omega), Option.bind_some, if_pos (by unfold entF; rw [List.length_map, List.length_range]; omega)]
    have ih := refEnt_l0 j hts t key hkey r ht0 ht1 hx0 hx2 hr hr3 n (i + 1) K (by omega) (by omega)
    rw [entF_snoc] at ih
    exact ih
theorem refEntries_is (j : Job) (hts : j.ts.length ≤ 1048576) (t : Int) (key : List Int) (hkey : key.length ≤ 1048576) (r : List (List Int)) (hr : r.length ≤ 1048576) (K : Nat) (hK : j.ts.length + 2 * r.length + 80 ≤ K) :
    garnerref16_Entries.f K j.w j.l j.wi j.c j.d j.e j.ts t key r = some (entriesL j t key r) := by
  unfold garnerref16_Entries.f
  have hj0t : garnerref16_Entries.j0 K t key r true j.w j.l j.wi j.c j.d j.e j.ts = some ([], 2) := by
    obtain ⟨K, rfl⟩ : ∃ q, K = q + 1 := ⟨K - 1, by omega⟩
    rw [garnerref16_Entries.j0, if_pos rfl]
  rw [refCheck_is j hts K (by omega), Option.bind_some]
  unfold entriesL entB
  cases hok : ok j with
  | false => rw [if_neg (by decide), hj0t]; rfl
  | true =>
    rw [if_pos (show err true = 0 from rfl)]
    obtain ⟨t1, t2, t3⟩ := okT_le hok
    by_cases g1 : t < 0
    · rw [if_pos g1, hj0t, show wi t 0 ((j.ts.length : Int) - 1) = false by simp [wi]; omega]; rfl
    by_cases g2 : t ≥ (j.ts.length : Int)
    · rw [if_neg g1, if_pos g2, hj0t, show wi t 0 ((j.ts.length : Int) - 1) = false by simp [wi]; omega]; rfl
    rw [if_neg g1, if_neg g2, rowMayKey_f, Option.bind_some, show wi t 0 ((j.ts.length : Int) - 1) = true by simp [wi]; omega]
    cases hkb : keyB key with
    | false => rw [if_neg (by simp), hj0t]; rfl
    | true =>
      rw [if_pos rfl]
      have htl : t.toNat < j.ts.length := by omega
      have hx2 : 0 ≤ rd j.ts t ∧ rd j.ts t ≤ 2 := by
        rw [show rd j.ts t = j.ts[t.toNat] by simp [rd, htl]]
        exact t3 _ (List.getElem_mem htl)
      have hl0 : ∀ (hr2 : ∀ f ∈ r, f.length ≤ 24) (hr3 : r.length ≤ 3), garnerref16_Entries.j0 K t key r false j.w j.l j.wi j.c j.d j.e j.ts = some (entF j t key r (entN j t r), 0) := by
        intro hr2 hr3
        obtain ⟨K, rfl⟩ : ∃ q, K = q + 1 := ⟨K - 1, by omega⟩
        rw [garnerref16_Entries.j0, if_neg (by simp)]
        have hN : entN j t r ≤ 2 := by unfold entN; omega
        exact refEnt_l0 j hts t key hkey r (by omega) (by omega) hx2.1 hx2.2 hr2 hr3 (entN j t r) 0 K (by omega) (by omega)
      by_cases hr0 : r.length = 0
      · rw [if_neg (by omega), decide_eq_true hr0, hl0 (fun f hf => by rw [List.eq_nil_of_length_eq_zero hr0] at hf; cases hf) (by omega)]
        rfl
      · rw [if_pos (by omega), refMay_is r hr K (by omega), Option.bind_some, decide_eq_false hr0]
        cases hm : mayB r with
        | false => rw [Bool.not_false, hj0t]; rfl
        | true =>
          obtain ⟨m1, m2, m3⟩ := (mayB_iff r).1 hm
          rw [Bool.not_true, hl0 m3 m2]
          rfl
theorem refEntries_call (j : Job) (A : Option Addr) (n : Nat) (t : Int) (B : Option Addr) (d : Nat) (key : List Int) (D : Option Addr) (m : Nat) (r : List (List Int)) (w : World) (hj : j.In w A n) (hts : j.ts.length ≤ 1048576) (hkey : key.length ≤ 1048576) (hr : r.length ≤ 1048576)
    (hB : Kd.C (Kd.int .u8) w B key.length key) (hd : key.length ≤ d) (hD : Kd.C (Kd.slice 5 (Kd.int .u8)) w D r.length r) (hm : r.length ≤ m) :
    Calls Try.prog 21 #[.agg (j.v A n), .int .i64 t, .slice B key.length d, .slice D r.length m] w (EntP2 (entriesL j t key r) w) :=
  (garnerref16_Entries.calls _ j.w j.l j.wi j.c j.d j.e A n j.ts t B d key D m r (entriesL j t key r).1 (entriesL j t key r).2 w hj.C hj.h hB hd hD hm (refEntries_is j hts t key hkey r hr _ (Nat.le_refl _))).mono fun e w' ⟨v, he, hS, hb⟩ => by
    obtain ⟨A', c', hv, hl', hC⟩ := Kd.R_reads (Kd.S_R hS)
    exact ⟨A', c', by rw [he, hv], hl', hC, hb⟩
end Go.Proofs.Ytecdnhmdodedmaa.Ch
