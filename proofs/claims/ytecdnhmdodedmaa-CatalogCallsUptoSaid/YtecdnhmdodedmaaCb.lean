/- catalog.All: a job's trees, as an iterator. -/
import Derived.Test.YtecdnhmdodedmaaCa
import Derived.Test.YtecdnhmdodedmaaIt
namespace Go.Proofs.Ytecdnhmdodedmaa.Ca
open Go.RowKit Go.Shelf Go.Proofs.YtecdnhmdodedmaaW.PrintWords Go.Proofs.YtecdnhmdodedmaaW.PrintLast Go.Proofs.YtecdnhmdodedmaaW.PrintMore Go.Proofs.Ytecdnhmdodedmaa.It
set_option linter.unusedVariables false
set_option linter.unusedSimpArgs false
/-- The trees of table t with so many indexes. -/
def rowN (t : Nat) (n : Nat) : List (Int × Int) := (List.range n).map fun (q : Nat) => ((t : Int), (q : Int) - 1)
def namesF : Nat → List Int → List (Int × Int)
  | _, [] => []
  | t, x :: r => rowN t (x.toNat + 1) ++ namesF (t + 1) r
/-- A job's trees. -/
def names (j : Job) : List (Int × Int) := if ok j then namesF 0 j.ts else []
def at_ (l : List (Int × Int)) (i : Nat) : Int × Int := (l[i]?).getD (0, 0)
def off (ts : List Int) (k : Nat) : Nat := ((ts.take k).map fun x => x.toNat + 1).sum
theorem rowN_len (t n : Nat) : (rowN t n).length = n := by simp [rowN]
theorem namesF_len : ∀ (t : Nat) (ts : List Int), (namesF t ts).length = (ts.map fun x => x.toNat + 1).sum
  | _, [] => rfl
  | t, x :: r => by rw [namesF, List.length_append, rowN_len, namesF_len]; simp
theorem off_succ (ts : List Int) (k : Nat) (h : k < ts.length) : off ts (k + 1) = off ts k + (ts[k].toNat + 1) := by
  unfold off
  rw [List.take_succ_eq_append_getElem h, List.map_append, List.sum_append]
  simp
theorem off_all (ts : List Int) : off ts ts.length = (namesF 0 ts).length := by unfold off; rw [List.take_length, namesF_len]
theorem names_at : ∀ (ts : List Int) (t k q : Nat) (h : k < ts.length), q < ts[k].toNat + 1 → at_ (namesF t ts) (off ts k + q) = (((t + k : Nat) : Int), (q : Int) - 1)
  | [], t, k, q, h, _ => by simp at h
  | x :: r, t, 0, q, h, hq => by
    have hq' : q < x.toNat + 1 := hq
    unfold at_ namesF
    rw [show off (x :: r) 0 = 0 from rfl, Nat.zero_add, List.getElem?_append_left (by rw [rowN_len]; exact hq')]
    simp [rowN, hq']
  | x :: r, t, k + 1, q, h, hq => by
    have ih := names_at r (t + 1) k q (by simpa using h) (by simpa using hq)
    have e : off (x :: r) (k + 1) = (x.toNat + 1) + off r k := by unfold off; simp
    unfold at_ at ih ⊢
    rw [namesF, e, List.getElem?_append_right (by rw [rowN_len]; omega), rowN_len, show x.toNat + 1 + off r k + q - (x.toNat + 1) = off r k + q by omega, ih]
    refine Prod.ext ?_ rfl
    show (((t + 1 + k : Nat) : Int)) = _
    omega
theorem off_le (ts : List Int) (k : Nat) (h : k ≤ ts.length) : off ts k ≤ (namesF 0 ts).length := by
  rw [← off_all]
  unfold off
  rw [List.take_length]
  conv => rhs; rw [← List.take_append_drop k ts, List.map_append, List.sum_append]
  omega
theorem okT_le {j : Job} (h : ok j = true) : 1 ≤ j.ts.length ∧ j.ts.length ≤ 4 ∧ ∀ x ∈ j.ts, 0 ≤ x ∧ x ≤ 2 := by
  unfold ok okT at h
  simp only [Bool.and_eq_true, wi_iff, Bool.not_eq_true', List.any_eq_false] at h
  obtain ⟨_, ⟨h1, h2⟩, h3⟩ := h
  refine ⟨by omega, by omega, fun x hx => ?_⟩
  have := h3 x hx
  simpa [wi_iff] using this
theorem sum_le (l : List Int) (h : ∀ x ∈ l, 0 ≤ x ∧ x ≤ 2) : (l.map fun x => x.toNat + 1).sum ≤ 3 * l.length := by
  induction l with
  | nil => simp
  | cons x r ih =>
    have h1 := h x (by simp)
    have h2 := ih (fun y hy => h y (by simp [hy]))
    simp only [List.map_cons, List.sum_cons, List.length_cons]
    omega
theorem names_le (j : Job) : (names j).length ≤ 12 := by
  unfold names
  cases hok : ok j with
  | false => simp
  | true =>
    obtain ⟨_, t2, t3⟩ := okT_le hok
    rw [if_pos rfl, namesF_len]
    have := sum_le j.ts t3
    omega
def encN (j : Job) (i : Nat) : Array Value := #[.int .i64 (i : Int), .agg #[.int .i64 (at_ (names j) i).1, .int .i64 (at_ (names j) i).2]]
section
attribute [local go_sem] Oper.semAt_some
set_option maxRecDepth 100000 in
set_option maxHeartbeats 4000000 in
theorem all1_in (n : Nat) (hn : 1 ≤ n) (l Bs n₀ : Nat) (j : Job) (A : Option Addr) (c : Nat) (J Jx : List Nat → World → Prop)
    (W : World) (hJ : AbidesFrom W.heap.size J)
    (hY : ∀ pre x W1, J pre W1 → pre.length < (names j).length → YieldAt Fence.wide (n - 1) Try.prog l (encN j x) W1 fun e W' =>
      (e = .returned (.bool true) ∧ J (pre ++ [x]) W' ∧ KpB n₀ Bs W1 W') ∨ (e = .returned (.bool false) ∧ Jx (pre ++ [x]) W'))
    (hn₀ : n₀ ≤ W.heap.size) (hBs : W.heap[Bs]? = some (.cells (j.v A c) 24 (0, 0))) (hr : ∀ W', Below n₀ W W' → j.In W' A c) (h0 : J [] W) :
    CallsIn Fence.wide n Try.prog 65 #[.func (.yield l) #[] #[], .pointer (some ⟨Bs, 0, none⟩)] W fun e W' => (∃ v, e = .returned v) ∧
      ((∃ ys, ys = List.range (names j).length ∧ J ys W') ∨ (∃ pre, (∃ k, k ≤ (names j).length ∧ pre = List.range k) ∧ Jx pre W')) := by
  have hBlt : Bs < W.heap.size := (Array.getElem?_eq_some_iff.1 hBs).1
  have CK := Aside0.mk (fun (W' : World) (hi : j.In W' A c) => check j A c W' hi)
  unfold Job.v at hBs CK
  refine callsIn_of_wp Try.func65 rfl trivial ?_ rfl
  simp only [Try.ntmps65, List.size_toArray, List.length_cons, List.length_nil, Nat.reduceAdd, Nat.reduceSub, Array.replicate_succ, Array.replicate_zero, List.push_toArray, List.append_toArray, List.nil_append, List.cons_append]
  have y0 : (_ : Option Value) = some (.int .i64 j.w) := (blk_cell hBs 0).trans rfl
  have y1 : (_ : Option Value) = some (.int .i64 j.l) := (blk_cell hBs 1).trans rfl
  have y2 : (_ : Option Value) = some (.int .i64 j.wi) := (blk_cell hBs 2).trans rfl
  have y3 : (_ : Option Value) = some (.int .i64 j.c) := (blk_cell hBs 3).trans rfl
  have y4 : (_ : Option Value) = some (.int .i64 j.d) := (blk_cell hBs 4).trans rfl
  have y5 : (_ : Option Value) = some (.int .i64 j.e) := (blk_cell hBs 5).trans rfl
  have y6 : (_ : Option Value) = some (.slice A j.ts.length c) := (blk_cell hBs 6).trans rfl
  obtain ⟨E, eE⟩ : ∃ E, E = err (ok j) := ⟨_, rfl⟩
  rw [← eE] at CK
  cases hok : ok j with
  | false =>
    have hE : (E != 0) = true := by rw [eE, hok]; rfl
    have hn0 : (names j).length = 0 := by unfold names; rw [hok]; rfl
    rw [hn0]
    clear eE hY hok hn0
    gi_wp2_with ((refine ⟨trivial, ?_⟩; gi_at_call 11; refine (callsIn_wide.2 (CK.out _ (hr _ (Below.refl _ _)))).mono ?_; rintro e w1 ⟨rfl, hb1⟩))
    refine bodyPost_ret (results_none rfl _ _ _) rfl ?_
    exact ⟨⟨_, rfl⟩, .inl ⟨_, rfl, hJ _ _ _ none h0 (grown_of_below hb1) (by simp)⟩⟩
  | true =>
    have hE : (E != 0) = false := by rw [eE, hok]; rfl
    obtain ⟨t1, t2, t3⟩ := okT_le hok
    have hnm : names j = namesF 0 j.ts := by unfold names; rw [hok]; rfl
    have HNM := Aside0.mk hnm
    have HT3 := Aside0.mk t3
    have HN12 := Aside0.mk (names_le j)
    clear eE hok hnm t3
    gi_wp2_with ((refine ⟨trivial, ?_⟩; gi_at_call 11; refine (callsIn_wide.2 (CK.out _ (hr _ (Below.refl _ _)))).mono ?_; rintro e w1 ⟨rfl, hb1⟩; have y6' := pw_cell_below hb1 y6))
    gi_loopw [3, 13] (fun v3 v13 wr => ∃ (k m : Nat), k ≤ j.ts.length ∧ v13 = .int .i64 k ∧ v3 = .int .i64 m ∧ Aside0 (m = off j.ts k) ∧ Aside0 (J (List.range m) wr) ∧ Aside0 (KpB n₀ Bs W wr)) (fun _ i _ => j.ts.length - (intOf i).toNat)
    case atStart => exact ⟨0, 0, Nat.zero_le _, rfl, rfl, ⟨rfl⟩, ⟨hJ _ _ _ none h0 (grown_of_below hb1) (by simp)⟩, ⟨hb1.mono hn₀, hb1.block _ hBlt⟩⟩
    case round =>
      obtain ⟨k, m, hk, rfl, rfl, hm, hJs, hK⟩ := hrel
      clear hb1
      by_cases hlt : k < j.ts.length
      · obtain ⟨ad, ea, hx⟩ := Kd.at_int (hr _ hK.out.1).C (k : Int) (by omega) (by omega)
        subst ea
        have hrd : rd j.ts (k : Int) = j.ts[k] := by simp [rd, hlt]
        simp only [Int.toNat_natCast] at hx
        rw [hrd] at hx
        have htx := HT3.out _ (List.getElem_mem hlt)
        have hofs := off_succ j.ts k hlt
        have hat := names_at j.ts 0 k
        obtain ⟨x, ex⟩ : ∃ x, x = j.ts[k] := ⟨_, rfl⟩
        rw [← ex] at hx htx hofs
        have EX := Aside0.mk ex
        have OFS := Aside0.mk hofs
        obtain ⟨x0, x2⟩ := htx
        have k0 : (0 : Int) ≤ (k : Int) := by omega
        have k1 : (k : Int) < (j.ts.length : Int) := by omega
        clear hrd ex hofs hat y0 y1 y2 y3 y4 y5 y6 y6'
        gi_wp2
        obtain ⟨wo, rfl⟩ : ∃ wo : World, wo = wr := ⟨_, rfl⟩
        have HK := hK
        clear hK
        gi_loopw [3, 6] (fun v3 v6 wr => ∃ (i : Int) (m' : Nat), -1 ≤ i ∧ i ≤ x ∧ v6 = .int .i64 i ∧ v3 = .int .i64 m' ∧ Aside0 ((m' : Int) = (m : Int) + i + 1) ∧ Aside0 (J (List.range m') wr) ∧ Aside0 (KpB n₀ Bs W wr)) (fun _ i _ => (x - intOf i).toNat)
        case atStart => exact ⟨-1, m, by omega, by omega, rfl, rfl, ⟨by omega⟩, hJs, HK⟩
        case round =>
          clear hJs HK
          obtain ⟨i, m', hi1, hi2, rfl, rfl, hm', hJs, hK⟩ := hrel
          by_cases hlt2 : i < x
          · have hle : m' < (names j).length := by
              have h1 := hm.out
              have h2 := hm'.out
              have h3 := OFS.out
              have h4 := off_le j.ts (k + 1) hlt
              rw [HNM.out]
              omega
            obtain ⟨fn, tmps, assign, body, hy, hR⟩ := hY _ m' _ hJs.out (by rw [List.length_range]; exact hle)
            have hat : at_ (names j) m' = ((k : Int), i) := by
              have h1 := hm.out
              have h2 := hm'.out
              have h := names_at j.ts 0 k (i + 1).toNat hlt (by rw [← EX.out]; omega)
              rw [HNM.out, show m' = off j.ts k + (i + 1).toNat by omega, h]
              exact Prod.ext (by show (((0 + k : Nat) : Int)) = (k : Int); omega) (by show ((i + 1).toNat : Int) - 1 = i; omega)
            dsimp only [encN] at hy
            rw [hat] at hy
            have hm4 : (m' : Int) + 1 ≤ 9223372036854775807 := by
              have h1 := HN12.out
              omega
            have HLE := Aside0.mk (show m' + 1 ≤ (names j).length from hle)
            clear hat hle
            gi_wp2
            refine hR.mono ?_
            rintro e W3 (⟨rfl, hJ3, hk3⟩ | ⟨rfl, hJx3⟩)
            · gi_wp2
              go_roundw
              case rel => exact ⟨i + 1, m' + 1, by omega, by omega, rfl, by go_num, ⟨by have := hm'.out; omega⟩, ⟨by rw [List.range_succ]; exact hJ3⟩, ⟨hK.out.t hk3⟩⟩
              case measure => simp [intOf]; omega
            · gi_wp2
              refine bodyPost_ret (results_none rfl _ _ _) rfl ?_
              exact ⟨⟨_, rfl⟩, .inr ⟨_, ⟨m' + 1, HLE.out, (List.range_succ).symm⟩, hJx3⟩⟩
          · gi_wp2
            go_roundw
            case rel => exact ⟨k + 1, m', by omega, by go_num, rfl, ⟨by have h1 := hm.out; have h2 := hm'.out; have h3 := OFS.out; omega⟩, hJs, hK⟩
            case measure => simp [intOf]; omega
      · obtain rfl : k = j.ts.length := by omega
        gi_wp2
        go_end0
        exact ⟨⟨_, rfl⟩, .inl ⟨_, by rw [HNM.out, ← off_all, hm.out], hJs.out⟩⟩
end
end Go.Proofs.Ytecdnhmdodedmaa.Ca
