/- Written for this claim by a program of this session (hp.py): Go functions as plain functions, each with the proof that its call comes to it. -/
import Derived.Test.YtmpbcmnnlkienaaHSx0
namespace Go.Proofs.Ytmpbcmnnlkienaa.HS
open Go.RowKit Go.Proofs.YtmpbcmnnlkienaaW.PrintWords Go.Proofs.YtmpbcmnnlkienaaW.PrintLast Go.Proofs.YtmpbcmnnlkienaaW.PrintMore
attribute [local go_sem] max2_int min2_int max_two min_two max_three min_three max_four min_four   -- for this text's walks alone
set_option linter.unusedVariables false
set_option linter.unusedSimpArgs false

/-! ### row_MayKey: function 19 -/
def row_MayKey.f (l0 : List Int) : Option (Bool) := if (l0.length : Int) ≥ 1 then (some (decide ((l0.length : Int) ≤ 32))) else (some false)
set_option maxHeartbeats 8000000 in
set_option maxRecDepth 100000 in
theorem row_MayKey.calls (A0 : Option Addr) (c0 : Nat) (l0 : List Int) (r : Bool) (w : World) (hr0 : Kd.C (Kd.int .u8) w A0 l0.length l0) (hc0 : l0.length ≤ c0) (h : row_MayKey.f l0 = some r) :
    Calls Try.prog 19 #[.slice A0 l0.length c0] w fun e w' => e = .returned (.bool r) ∧ Drawn0 w w' := by
  have HR0 := Aside0.mk hr0
  have HC0 := Aside0.mk hc0
  clear hr0 hc0
  have H : (if (l0.length : Int) ≥ 1 then (some (decide ((l0.length : Int) ≤ 32))) else (some false)) = some r := h
  clear h
  by_cases c2 : (l0.length : Int) ≥ 1
  · rw [if_pos c2] at H
    have c2b0 : decide (1 ≤ (l0.length : Int)) = true := decide_eq_true c2
    have c2b1 : decide (1 ≤ l0.length) = true := decide_eq_true (by omega)
    clear c2
    obtain rfl := Option.some.inj H
    go_enter Try.func19, Try.ntmps19
    go_wp2
    go_ret
    exact ⟨by first | rfl | (simp; done) | (simp [*]; done), by repeat (first | exact Drawn0.refl _ | apply Drawn0.step)⟩
  · rw [if_neg c2] at H
    have c2b0 : decide (1 ≤ (l0.length : Int)) = false := decide_eq_false c2
    have c2b1 : decide (1 ≤ l0.length) = false := decide_eq_false (by omega)
    clear c2
    obtain rfl := Option.some.inj H
    go_enter Try.func19, Try.ntmps19
    go_wp2
    go_ret
    exact ⟨by first | rfl | (simp; done) | (simp [*]; done), by repeat (first | exact Drawn0.refl _ | apply Drawn0.step)⟩

/-! ### bytes_Equal: function 43 -/
def bytes_Equal.f (l0 : List Int) (l1 : List Int) : Option (Bool) := some ((strOfNums l0).toList == (strOfNums l1).toList)
set_option maxHeartbeats 8000000 in
set_option maxRecDepth 100000 in
theorem bytes_Equal.calls (A0 : Option Addr) (c0 : Nat) (l0 : List Int) (A1 : Option Addr) (c1 : Nat) (l1 : List Int) (r : Bool) (w : World) (hr0 : Kd.C (Kd.int .u8) w A0 l0.length l0) (hc0 : l0.length ≤ c0) (hr1 : Kd.C (Kd.int .u8) w A1 l1.length l1) (hc1 : l1.length ≤ c1) (h : bytes_Equal.f l0 l1 = some r) :
    Calls Try.prog 43 #[.slice A0 l0.length c0, .slice A1 l1.length c1] w fun e w' => e = .returned (.bool r) ∧ Drawn0 w w' := by
  have HR0 := Aside0.mk hr0
  have HC0 := Aside0.mk hc0
  clear hr0 hc0
  have HR1 := Aside0.mk hr1
  have HC1 := Aside0.mk hc1
  clear hr1 hc1
  have H : (some ((strOfNums l0).toList == (strOfNums l1).toList)) = some r := h
  clear h
  obtain rfl := Option.some.inj H
  have hcv3 := Kd.C_string (P := Try.prog) (A := A0) (c := c0) Try.underlying22 Try.underlying5 Try.underlying9 HR0.out; (try (have hcv3d := fun n_ => Kd.C_string (P := Try.prog) (A := A0) (c := c0) Try.underlying22 Try.underlying5 Try.underlying9 (Kd.C_drewN HR0.out n_)))
  have hcv4 := Kd.C_string (P := Try.prog) (A := A1) (c := c1) Try.underlying22 Try.underlying5 Try.underlying9 HR1.out; (try (have hcv4d := fun n_ => Kd.C_string (P := Try.prog) (A := A1) (c := c1) Try.underlying22 Try.underlying5 Try.underlying9 (Kd.C_drewN HR1.out n_)))
  go_enter Try.func43, Try.ntmps43
  go_wp2
  go_ret
  exact ⟨by first | rfl | (simp; done) | (simp [*]; done), by repeat (first | exact Drawn0.refl _ | apply Drawn0.step)⟩

-- NOT PRINTED: function 69 (bytealg_IndexByte)

-- NOT PRINTED: function 64 (bytes_IndexByte)

-- NOT PRINTED: function 65 (bytealg_Index)

-- NOT PRINTED: function 66 (bytealg_Cutover)

-- NOT PRINTED: function 70 (bytealg_hashStr_byte)

-- NOT PRINTED: function 67 (bytealg_IndexRabinKarp_byte)

-- NOT PRINTED: function 58 (bytes_Index)

-- NOT PRINTED: function 36 (bytes_Cut)

/-! ### row_long: function 37 -/
theorem row_long.walk (B : Option Addr) (c n : Nat) (w : World) : Calls Try.prog 37 #[.slice B n c] w fun e w' => e = .returned (.bool (decide ((24 : Int) < (n : Int)))) ∧ w = w' := by
  go_enter Try.func37, Try.ntmps37
  go_wp2
  go_ret
  exact ⟨rfl, rfl⟩
def row_long.f (l0 : List Int) : Option Bool := some (decide ((24 : Int) < (l0.length : Int)))
theorem row_long.calls (A0 : Option Addr) (c0 : Nat) (l0 : List Int) (r : Bool) (w : World) (hr0 : Kd.C (Kd.int .u8) w A0 l0.length l0) (hc0 : l0.length ≤ c0) (h : row_long.f l0 = some r) :
    Calls Try.prog 37 #[.slice A0 l0.length c0] w fun e w' => e = .returned (.bool r) ∧ Drawn0 w w' := by
  obtain rfl := Option.some.inj h
  exact (row_long.walk A0 c0 l0.length w).mono fun e w' ⟨h1, h2⟩ => ⟨h1, h2 ▸ Drawn0.refl w⟩

/-! ### bytes_Clone: function 38 -/
def bytes_Clone.f (l0 : List Int) : Option (List Int) := if l0.length < 140737488355328 then some l0 else none
set_option maxRecDepth 100000 in
theorem clone.walk (A : Option Addr) (c : Nat) (b : List Int) (w : World) (hC : Kd.C (Kd.int .u8) w A b.length b) (hc : b.length ≤ c) (hl : b.length < 140737488355328) :
    Calls Try.prog 38 #[.slice A b.length c] w (Rd.FormPost b w) := by
  have HC := Aside0.mk hC
  have hq := fun (W : World) (A' : Option Addr) (n c : Nat) => Lib.run_eql_slice_nil (P := Try.prog) W 22 5 A' n c 0 0 Try.underlying22
  cases A with
  | none =>
    have h0 : b = [] := by
      rcases Nat.eq_zero_or_pos b.length with h | h
      · exact List.eq_nil_of_length_eq_zero h
      · obtain ⟨ad, h, _⟩ := hC.2.2 h
        cases h
    subst h0
    clear hC
    go_enter Try.func38, Try.ntmps38
    go_wp2
    go_ret
    exact ⟨_, rfl, Rd.Own.nil _ _, Below.refl _ _⟩
  | some ad =>
    clear hC
    go_enter Try.func38, Try.ntmps38
    go_wp2_with (first | ((with_reducible refine gate_builtin (b := .append) (xs := #[.tmp 5, .tmp 6]) rfl ?_); at_builtin; refine Rd.append_list w.heap.size rfl (.tmp 5) (.tmp 6) rfl (.slice (some ⟨w.heap.size, 0, none⟩) 0 0) [] b (some ad) b.length c rfl rfl (Rd.own_new (W := w) _ (Nat.le_refl _)) (Kd.C_below HC.out (below_alloc (Below.refl _ _) _)) (by simp) (by simp only [List.length_nil]; omega) ?_; intro v1 w1 ho1 hb1 hg1 hat; have HO1 := Aside0.mk ho1; have HB1 := Aside0.mk hb1; clear ho1 hb1 hg1 hat))
    go_ret
    exact ⟨v1, rfl, HO1.out, (below_alloc (Below.refl w.heap.size w) (.cells #[] 5)).trans HB1.out⟩
theorem bytes_Clone.calls (A0 : Option Addr) (c0 : Nat) (l0 : List Int) (r : List Int) (w : World) (hr0 : Kd.C (Kd.int .u8) w A0 l0.length l0) (hc0 : l0.length ≤ c0) (h : bytes_Clone.f l0 = some r) :
    Calls Try.prog 38 #[.slice A0 l0.length c0] w fun e w' => ∃ v0_ : Value, e = .returned (v0_) ∧ Kd.R (Kd.int .u8) 5 w' w.heap.size (fun _ => True) v0_ r ∧ Below w.heap.size w w' := by
  unfold bytes_Clone.f at h
  split at h
  · rename_i hl
    obtain rfl := Option.some.inj h
    exact (clone.walk A0 c0 l0 w hr0 hc0 hl).mono fun e w' ⟨v, he, ho, hb⟩ => ⟨v, he, Kd.R_mono ho (fun _ _ => trivial), hb⟩
  · cases h

/-! ### row_Split: function 11 -/
/-- An entry's field and key. -/
def splitGo : List Int → List Int → Option (List Int × List Int)
  | c :: d :: r, f => if c = 0 then (if d = 255 then splitGo r (f ++ [0]) else if d = 1 ∧ f.length ≤ 24 ∧ 1 ≤ r.length ∧ r.length ≤ 32 then some (f, r) else none) else splitGo (d :: r) (f ++ [c])
  | _, _ => none
def bytB (l : List Int) : Bool := l.all fun x => decide (0 ≤ x ∧ x < 256)
theorem bytB_iff {l : List Int} (h : bytB l = true) : Rd.Byt l := fun x hx => of_decide_eq_true (List.all_eq_true.mp h x hx)
def row_Split.f (l0 : List Int) : Option (List Int × List Int × Int) := if bytB l0 = true ∧ l0.length ≤ 1000000 then some (match splitGo l0 [] with | some (a, b) => (a, b, 0) | none => ([], [], 4)) else none
/-- How many there are ahead of the first nought. -/
def run0 (l : List Int) : Nat := (l.takeWhile fun c => decide (c ≠ 0)).length
theorem run0_le (l : List Int) : run0 l ≤ l.length := by
  unfold run0
  have h := congrArg List.length (List.takeWhile_append_dropWhile (p := fun c : Int => decide (c ≠ 0)) (l := l))
  rw [List.length_append] at h
  omega
theorem run0_nil : run0 [] = 0 := rfl
theorem run0_cons (x : Int) (l : List Int) : run0 (x :: l) = if x = 0 then 0 else run0 l + 1 := by
  unfold run0
  rw [List.takeWhile_cons]
  by_cases h : x = 0 <;> simp [h]
theorem run0_zero : ∀ (l : List Int) (h : run0 l < l.length), l[run0 l] = 0
  | [], h => by simp at h
  | x :: l, h => by
    by_cases h0 : x = 0
    · simp [run0_cons, h0]
    · have e : run0 (x :: l) = run0 l + 1 := by rw [run0_cons, if_neg h0]
      have h2 : run0 l < l.length := by rw [e, List.length_cons] at h; omega
      simp only [e, List.getElem_cons_succ]
      exact run0_zero l h2
theorem index0 : ∀ (l : List Int), Rd.Byt l → Lib.indexByte (Lib.bytesOf l) (0 : Int).toNat.toUInt8 = if run0 l < l.length then (run0 l : Int) else -1
  | [], _ => rfl
  | x :: l, hb => by
    have hx := hb x List.mem_cons_self
    have ih := index0 l (fun y hy => hb y (List.mem_cons_of_mem _ hy))
    have e : Lib.bytesOf (x :: l) = UInt8.ofNat x.toNat :: Lib.bytesOf l := rfl
    rw [e, Lib.indexByte, run0_cons, ih]
    have h0 : (UInt8.ofNat x.toNat == (0 : Int).toNat.toUInt8) = decide (x = 0) := by
      rw [show (0 : Int).toNat.toUInt8 = UInt8.ofNat 0 from rfl]
      by_cases h : x = 0
      · subst h; rfl
      · rw [decide_eq_false h, beq_eq_false_iff_ne]
        intro e
        have := congrArg UInt8.toNat e
        simp at this
        omega
    rw [h0]
    by_cases h : x = 0
    · simp [h]
    · simp only [decide_eq_false h, Bool.false_eq_true, if_false, if_neg h, List.length_cons]
      by_cases hr : run0 l < l.length
      · rw [if_pos hr, if_neg (by rw [beq_iff_eq]; omega), if_pos (by omega)]
        omega
      · rw [if_neg hr, if_pos (by decide), if_neg (by omega)]
theorem splitGo_run : ∀ (l f : List Int), splitGo l f = splitGo (l.drop (run0 l)) (f ++ l.take (run0 l))
  | [], f => by simp [run0_nil]
  | [x], f => by
    rw [run0_cons]
    by_cases h : x = 0
    · simp [h]
    · simp [h, run0_nil, splitGo]
  | x :: y :: l, f => by
    rw [run0_cons]
    by_cases h : x = 0
    · simp [h]
    · rw [if_neg h, splitGo, if_neg h, splitGo_run (y :: l) (f ++ [x])]
      simp
theorem splitGo_none {l f : List Int} (h : run0 l = l.length) : splitGo l f = none := by
  rw [splitGo_run, h, List.drop_length]
  simp [splitGo]
theorem splitGo_one {l f : List Int} (h : l.length - run0 l < 2) : splitGo l f = none := by
  rw [splitGo_run]
  have hl : (l.drop (run0 l)).length < 2 := by rw [List.length_drop]; omega
  match hd : l.drop (run0 l), hl with
  | [], _ => rfl
  | [x], _ => rfl
  | x :: y :: r, hl => simp only [List.length_cons] at hl; omega
theorem splitGo_two {l f : List Int} (h : 2 ≤ l.length - run0 l) : splitGo l f = (if rd l ((run0 l + 1 : Nat) : Int) = 255 then splitGo (l.drop (run0 l + 2)) (f ++ l.take (run0 l) ++ [0]) else
    if rd l ((run0 l + 1 : Nat) : Int) = 1 ∧ (f ++ l.take (run0 l)).length ≤ 24 ∧ 1 ≤ (l.drop (run0 l + 2)).length ∧ (l.drop (run0 l + 2)).length ≤ 32 then some (f ++ l.take (run0 l), l.drop (run0 l + 2)) else none) := by
  rw [splitGo_run]
  have h1 : run0 l < l.length := by omega
  have h2 : run0 l + 1 < l.length := by omega
  have hd : l.drop (run0 l) = l[run0 l] :: l[run0 l + 1] :: l.drop (run0 l + 2) := by
    rw [List.drop_eq_getElem_cons h1, List.drop_eq_getElem_cons h2]
  have hr : rd l ((run0 l + 1 : Nat) : Int) = l[run0 l + 1] := by simp [rd, h2]
  rw [hd, splitGo, if_pos (run0_zero l h1), hr]
/-- A slice cut off in front. -/
def from0 (A : Option Addr) (c k : Nat) : Option Addr := if c = k then A else A.map (·.add (k * 1))
theorem cut0.walk (a : Addr) (n c b2 d : Nat) (xs : List Int) (w : World) (hx : xs.length = n) (hB : Rd.Byt xs) (hC : Kd.C (Kd.int .u8) w (some a) xs.length xs) (hc2 : w.cell? ⟨b2, 0, none⟩ = some (.int .u8 0)) (hn : n ≤ c) (hl : n ≤ 1000000) :
    Calls Try.prog 36 #[.slice (some a) n c, .slice (some ⟨b2, 0, none⟩) 1 d] w fun e w' => (∃ u : Value, e = .returned (.tuple #[.slice (some a) (run0 xs) c, u, .bool (decide (run0 xs < n))])) ∧ ∃ q, w' = w.drewN q := by
  have hcell : ∀ i, i < n → w.cell? (a.add i) = some (.int .u8 (xs.getD i 0)) := by
    intro i hi
    obtain ⟨ad', e, hcc⟩ := hC.2.2 (by omega)
    cases e
    obtain ⟨cs, hls, hK, hce⟩ := hcc i xs[i] (List.getElem?_eq_getElem (by omega))
    have := hce 0 (.int .u8 xs[i]) (by rw [hK]; rfl)
    rw [show i * (Kd.int .u8).sz + 0 = i from by show i * 1 + 0 = i; omega] at this
    rw [this]
    simp [List.getD, show i < xs.length by omega]
  have h1 := Shf.sh_bytes_Index_one_at a n c b2 0 d xs 0 w hx hcell hc2
  rw [index0 xs hB] at h1
  have hr := run0_le xs
  refine (Shf.sh_bytes_Cut_of (some a) (some ⟨b2, 0, none⟩) n c 1 d (if run0 xs < xs.length then (run0 xs : Int) else -1) w hn (by split <;> omega) (fun h => by split at h <;> omega) (by omega) (h1.mono fun e w' ⟨he, hw⟩ => ⟨he, 0, hw⟩)).mono fun e w' ⟨he, hq⟩ => ⟨?_, hq⟩
  subst he
  unfold Lib.cutV
  by_cases h : run0 xs < xs.length
  · rw [if_pos h, if_pos (by omega), decide_eq_true (by omega)]
    exact ⟨_, by rw [Int.toNat_natCast]⟩
  · rw [if_neg h, if_neg (by omega), decide_eq_false (by omega)]
    exact ⟨_, by rw [show run0 xs = n by omega]⟩
theorem mayKey.walk (B : Option Addr) (c n : Nat) (h : 1 ≤ n) (w : World) : Calls Try.prog 19 #[.slice B n c] w fun e w' => e = .returned (.bool (decide ((n : Int) ≤ 32))) ∧ w = w' := by
  go_enter Try.func19, Try.ntmps19
  go_wp2
  go_ret
  exact ⟨rfl, rfl⟩
theorem mayKey.zero (B : Option Addr) (c : Nat) (w : World) : Calls Try.prog 19 #[.slice B 0 c] w fun e w' => e = .returned (.bool false) ∧ w = w' := by
  go_enter Try.func19, Try.ntmps19
  go_wp2
  go_ret
  exact ⟨rfl, rfl⟩
def SplitPost (R : Option (List Int × List Int)) (w : World) (e : Ending) (w' : World) : Prop := ∃ (v0 v1 : Value) (r1 r2 : List Int) (r3 : Int), e = .returned (.tuple #[v0, v1, .int .i64 r3]) ∧ (match R with | some (a, b) => (r1, r2, r3) = (a, b, 0) | none => (r1, r2, r3) = ([], [], 4)) ∧
  Kd.R (Kd.int .u8) 5 w' w.heap.size (fun k_ => some k_ ≠ (v1 : Value).ownBlock) v0 r1 ∧ Kd.R (Kd.int .u8) 5 w' w.heap.size (fun k_ => some k_ ≠ (v0 : Value).ownBlock) v1 r2 ∧ Below w.heap.size w w'
theorem SplitPost.no (w w' : World) (h : Below w.heap.size w w') : SplitPost none w (.returned (.tuple #[.slice none 0 0, .slice none 0 0, .int .i64 4])) w' :=
  ⟨_, _, [], [], 4, rfl, rfl, Kd.R_nil _ _ _ _ _, Kd.R_nil _ _ _ _ _, h⟩
theorem SplitPost.yes {w w2 w3 : World} {F r : List Int} {A1 : Option Addr} {c1 : Nat} {v3 : Value} (h1 : Rd.Own w2 w.heap.size (.slice A1 F.length c1) F) (hb1 : Below w.heap.size w w2) (h3 : Rd.Own w3 w2.heap.size v3 r) (hb3 : Below w2.heap.size w2 w3) : SplitPost (some (F, r)) w (.returned (.tuple #[.slice A1 F.length c1, v3, .int .i64 0])) w3 := by
  obtain ⟨A, c, e, _, _, hlo⟩ := Rd.Own.reads h1
  cases e
  obtain ⟨B, d, e, _, _, hlo3⟩ := Rd.Own.reads h3
  subst e
  refine ⟨_, _, F, r, 0, rfl, rfl, ?_, ?_, hb1.trans (hb3.mono hb1.size)⟩
  · refine Kd.R_mono (Kd.R_below (Kd.R_bound h1) hb3) fun k hk e3 => ?_
    have hlt := hk.2.2.1
    cases B with
    | none => simp [Value.ownBlock] at e3
    | some a3 =>
      have := (hlo3 a3 rfl).1
      simp only [Value.ownBlock, Option.some.injEq] at e3
      omega
  · refine Kd.R_mono (Kd.R_lower h3 hb1.size) fun k hk e1 => ?_
    cases A1 with
    | none => simp [Value.ownBlock] at e1
    | some a1 =>
      have := (hlo a1 rfl).2
      simp only [Value.ownBlock, Option.some.injEq] at e1
      omega
set_option maxHeartbeats 8000000 in
set_option maxRecDepth 100000 in
theorem split.walk (A0 : Option Addr) (c0 : Nat) (l0 : List Int) (w : World) (hr0 : Kd.C (Kd.int .u8) w A0 l0.length l0) (hc0 : l0.length ≤ c0) (hB : Rd.Byt l0) (hl : l0.length ≤ 1000000) :
    Calls Try.prog 11 #[.slice A0 l0.length c0] w (SplitPost (splitGo l0 []) w) := by
  have HBY := Aside0.mk hB
  obtain ⟨R, hR⟩ : ∃ R, R = splitGo l0 [] := ⟨_, rfl⟩
  rw [← hR]
  have HR := Aside0.mk hR
  have HC := Aside0.mk hr0
  obtain ⟨i5, hi5, hs5⟩ : ∃ ie, Try.prog.info? 5 = some ie ∧ ie.size = 1 := by
    have h : (Try.prog.info? 5).map (fun i => i.size) = some 1 := by kernel_rfl
    obtain ⟨ie, h1, h2⟩ := Option.map_eq_some_iff.mp h
    exact ⟨ie, h1, h2⟩
  have HC0 := Aside0.mk hc0
  clear hR hr0 hB hc0
  go_enter Try.func11, Try.ntmps11
  go_wp2
  go_loopw [5, 6] (fun x y w' => ∃ (A : Option Addr) (p n c : Nat) (f : List Int), n = l0.length - p ∧ p ≤ l0.length ∧ y = .slice A n c ∧ n ≤ c ∧ Aside0 (Kd.C (Kd.int .u8) w A n (l0.drop p)) ∧ Aside0 (Rd.Own w' w.heap.size x f) ∧ f.length ≤ p ∧ Aside0 (R = splitGo (l0.drop p) f) ∧ Aside0 (Below w.heap.size w w'))
    (fun _ y _ => match y with | .slice _ n _ => n | _ => 0)
  case atStart => exact ⟨A0, 0, l0.length, c0, [], by omega, by omega, rfl, HC0.out, by simpa using HC, ⟨Rd.Own.nil _ _⟩, by simp, ⟨by simpa using HR.out⟩, ⟨Below.refl _ _⟩⟩
  case round =>
    obtain ⟨A, p, n, c, f, hn, hp, rfl, hnc, hC, ho, hfp, hrr, hb⟩ := hrel
    by_cases hlt : 0 < n
    · obtain ⟨ad, rfl, hcell⟩ : ∃ ad, A = some ad ∧ ∀ i, i < n → w.cell? (ad.add i) = some (.int .u8 (rd (l0.drop p) (i : Int))) := by
        obtain ⟨ad, e, _⟩ := hC.out.2.2 hlt
        refine ⟨ad, e, fun i hi => ?_⟩
        obtain ⟨ad', e', hx⟩ := Kd.at_int hC.out (i : Int) (by omega) (by omega)
        rw [e] at e'
        cases e'
        simpa using hx
      obtain ⟨xs, hxs⟩ : ∃ xs, xs = l0.drop p := ⟨_, rfl⟩
      rw [← hxs] at hC hrr hcell
      have hxl : xs.length = n := by rw [hxs, List.length_drop]; omega
      have hBy : Rd.Byt xs := by rw [hxs]; exact fun x hx => HBY.out x (List.mem_of_mem_drop hx)
      have HCB := fun (W : World) (hW : Below w.heap.size w W) (b2 d : Nat) (h2 : W.cell? ⟨b2, 0, none⟩ = some (.int .u8 0)) => cut0.walk ad n c b2 d xs W hxl hBy (by rw [hxl]; exact Kd.C_below hC.out hW) h2 hnc (by omega)
      have hk := run0_le xs
      obtain ⟨k, hkk⟩ : ∃ k, k = run0 xs := ⟨_, rfl⟩
      rw [← hkk] at hk
      have hkn' : k ≤ n := by omega
      have hn6 : n ≤ 1000000 := by omega
      have hcutk := cut_from (P := Try.prog) 22 5 .i64 Try.underlying22 hi5 1 hs5 (some ad) n c (k : Int) (by omega) (by omega)
      simp only [Int.toNat_natCast] at hcutk
      have hCk := Kd.C_drop (m := k) (c := c) (show Kd.C (Kd.int .u8) w (some ad) xs.length xs by rw [hxl]; exact hC.out) (by omega) (by omega)
      have hCt := Kd.C_take (m := k) (show Kd.C (Kd.int .u8) w (some ad) xs.length xs by rw [hxl]; exact hC.out) (by omega)
      rw [show (xs.take k).length = k by rw [List.length_take]; omega] at hCt
      rw [show (xs.drop k).length = n - k by rw [List.length_drop]; omega] at hCk
      obtain ⟨AK, hAK⟩ : ∃ X, X = (if c = k then some ad else (some ad).map (·.add (k * 1))) := ⟨_, rfl⟩
      replace hCk : Kd.C (Kd.int .u8) w AK (n - k) (xs.drop k) := by rw [hAK]; exact hCk
      rw [← hAK] at hcutk
      have HCT := Aside0.mk hCt
      have HCK := Aside0.mk hCk
      rw [← hkk] at HCB
      have HCB := Aside0.mk HCB
      have HK := Aside0.mk hkk
      have HN := Aside0.mk hn
      have HXS := Aside0.mk hxs
      have HXL := Aside0.mk hxl
      have hfl : f.length ≤ 1000000 := by omega
      clear hCt hCk hkk hAK hcell hxs hxl hBy hn
      by_cases hkn : k < n
      · by_cases h2 : n - k < 2
        · have hN : R = none := by rw [hrr.out]; exact splitGo_one (by rw [HXL.out, ← HK.out]; exact h2)
          have HNN := Aside0.mk hN
          clear hN
          go_wp2_with (first | (go_at_call 36; refine (HCB.out _ (below_step hb.out (below_alloc (Below.refl wr.heap.size wr) (.cells #[.int .u8 0] 5))) wr.heap.size 1 ((blk_cell (blk_new wr _) 0).trans rfl)).mono ?_; rintro e w1 ⟨⟨u, rfl⟩, nd, rfl⟩) | ((with_reducible refine gate_builtin (b := .append) (xs := #[.tmp 25, .tmp 26]) rfl ?_); at_builtin; refine Rd.append_list w.heap.size rfl (.tmp 25) (.tmp 26) rfl u5 f (xs.take k) (some ad) k c rfl rfl (ho.out.below (show Below wr.heap.size wr ((wr.alloc (.cells #[.int .u8 0] 5)).drewN nd) from pw_below_drewN (below_alloc (Below.refl _ _) _) nd)) (Kd.C_below HCT.out (show Below w.heap.size w ((wr.alloc (.cells #[.int .u8 0] 5)).drewN nd) from pw_below_drewN (below_step hb.out (below_alloc (Below.refl _ _) _)) nd)) (show w.heap.size ≤ ((wr.alloc (.cells #[.int .u8 0] 5)).drewN nd).heap.size from (pw_below_drewN (below_step hb.out (below_alloc (Below.refl _ _) _)) nd).size) (by omega) ?_; intro v1 w2 ho1 hb1 hg1 hat; obtain ⟨A1, c1, e1, hc1, hC1, hlo1⟩ := Rd.Own.reads ho1; subst e1; have HO1 := Aside0.mk ho1; have HB1 := Aside0.mk (show Below w.heap.size w w2 from (pw_below_drewN (below_step hb.out (below_alloc (Below.refl _ _) _)) nd).trans hb1); have HC1 := Aside0.mk hC1; clear ho1 hb1 hg1 hat hC1 hlo1))
          go_ret3
          rw [HNN.out]
          exact SplitPost.no _ _ HB1.out
        · have h2' : 2 ≤ n - k := by omega
          have hstep := splitGo_two (l := xs) (f := f) (by rw [HXL.out, ← HK.out]; exact h2')
          rw [← HK.out] at hstep
          have hcut2 : ∀ W : World, (Instr.slice 22 (.slice AK (n - k) (c - k)) (some (.int .i64 2)) none none).run Try.prog W = .ok (.slice (if c - k = 2 then AK else AK.map (·.add (2 * 1))) (n - k - 2) (c - k - 2)) W := cut_from (P := Try.prog) 22 5 .i64 Try.underlying22 hi5 1 hs5 AK (n - k) (c - k) 2 (by omega) (by omega)
          have hlk : (xs.drop k).length = n - k := by rw [List.length_drop, HXL.out]
          have hC2 := Kd.C_drop (m := 2) (c := c - k) (show Kd.C (Kd.int .u8) w AK (xs.drop k).length (xs.drop k) by rw [hlk]; exact HCK.out) (by omega) (by omega)
          obtain ⟨AX, hAX⟩ : ∃ X, X = (if c - k = 2 then AK else AK.map (·.add (2 * 1))) := ⟨_, rfl⟩
          replace hC2 : Kd.C (Kd.int .u8) w AX ((xs.drop k).drop 2).length ((xs.drop k).drop 2) := by rw [hAX]; exact hC2
          rw [← hAX] at hcut2
          rw [List.drop_drop] at hC2
          have hl2 : (xs.drop (k + 2)).length = n - k - 2 := by rw [List.length_drop, HXL.out]; omega
          rw [hl2] at hC2
          obtain ⟨ak, rfl, hd⟩ : ∃ ak, AK = some ak ∧ w.cell? (ak.add 1) = some (.int .u8 (rd xs ((k + 1 : Nat) : Int))) := by
            obtain ⟨ak, e, hx⟩ := Kd.at_int HCK.out 1 (by omega) (by omega)
            refine ⟨ak, e, ?_⟩
            have e2 : rd (xs.drop k) 1 = rd xs ((k + 1 : Nat) : Int) := by
              have hk1 : k + 1 < xs.length := by rw [HXL.out]; omega
              simp [rd, List.getElem?_drop, hk1]
            rw [← e2]
            simpa using hx
          obtain ⟨dv, hdv⟩ : ∃ dv, dv = rd xs ((k + 1 : Nat) : Int) := ⟨_, rfl⟩
          rw [← hdv] at hd hstep
          obtain ⟨F, hF⟩ : ∃ F, F = f ++ xs.take k := ⟨_, rfl⟩
          have hFl : F.length ≤ 2000000 := by rw [hF, List.length_append, List.length_take]; omega
          have hFp : F.length ≤ p + k := by rw [hF, List.length_append, List.length_take]; omega
          rw [← hF, hl2] at hstep
          have HST := Aside0.mk (hrr.out.trans hstep)
          have HF := Aside0.mk hF
          have HDV := Aside0.mk hdv
          have HC2 := Aside0.mk hC2
          have HH := Aside0.mk h2'
          have HLK := Aside0.mk hl2
          clear hstep hC2 hlk hF hdv hAX hl2
          obtain ⟨q, hq⟩ : ∃ q, q = n - k - 2 := ⟨_, rfl⟩
          rw [← hq] at hcut2 HST HC2 HLK
          have hqc : q ≤ c - k - 2 := by omega
          have HQ := Aside0.mk hq
          clear hq
          by_cases h255 : dv = 255
          · have HR2 := Aside0.mk (HST.out.trans (if_pos h255))
            subst h255
            go_wp2_with (first | (go_at_call 36; refine (HCB.out _ (below_step hb.out (below_alloc (Below.refl wr.heap.size wr) (.cells #[.int .u8 0] 5))) wr.heap.size 1 ((blk_cell (blk_new wr _) 0).trans rfl)).mono ?_; rintro e w1 ⟨⟨u, rfl⟩, nd, rfl⟩) | ((with_reducible refine gate_builtin (b := .append) (xs := #[.tmp 25, .tmp 26]) rfl ?_); at_builtin; refine Rd.append_list w.heap.size rfl (.tmp 25) (.tmp 26) rfl u5 f (xs.take k) (some ad) k c rfl rfl (ho.out.below (show Below wr.heap.size wr ((wr.alloc (.cells #[.int .u8 0] 5)).drewN nd) from pw_below_drewN (below_alloc (Below.refl _ _) _) nd)) (Kd.C_below HCT.out (show Below w.heap.size w ((wr.alloc (.cells #[.int .u8 0] 5)).drewN nd) from pw_below_drewN (below_step hb.out (below_alloc (Below.refl _ _) _)) nd)) (show w.heap.size ≤ ((wr.alloc (.cells #[.int .u8 0] 5)).drewN nd).heap.size from (pw_below_drewN (below_step hb.out (below_alloc (Below.refl _ _) _)) nd).size) (by omega) ?_; intro v1 w2 ho1 hb1 hg1 hat; rw [← HF.out] at ho1; obtain ⟨A1, c1, e1, hc1, hC1, hlo1⟩ := Rd.Own.reads ho1; subst e1; have HO1 := Aside0.mk ho1; have HB1 := Aside0.mk (show Below w.heap.size w w2 from (pw_below_drewN (below_step hb.out (below_alloc (Below.refl _ _) _)) nd).trans hb1); have HC1 := Aside0.mk hC1; have HLO := Aside0.mk hlo1; have hdw : w2.cell? ⟨ak.block, ak.off + 1, none⟩ = _ := pw_cell_below HB1.out hd; clear ho1 hb1 hg1 hat hC1 hlo1))
            have hsz : w.heap.size ≤ w2.heap.size := HB1.out.size
            go_region_held3 (fun _ => True) (trivial)
              ((refine Rd.append_step w.heap.size rfl (.tmp 41) (.tmp 42) rfl (.slice A1 F.length c1) F [0] (some ⟨w2.heap.size, 0, none⟩) 1 1 rfl rfl (HO1.out.below (show Below w2.heap.size w2 (w2.alloc (.cells #[.int .u8 0] 5)).drew from below_drew (below_alloc (Below.refl _ _) _))) (Kd.C_below (Rd.C_lit w2 .u8 5 [0] (by decide)) (show Below (w2.alloc _).heap.size (w2.alloc _) (w2.alloc (.cells #[.int .u8 0] 5)).drew from below_drew (Below.refl _ _))) (Nat.le_trans hsz (below_alloc (Below.refl w2.heap.size w2) _).size) (by omega) ?_; intro v3 w3 ho3 hb3
                have HO3 := Aside0.mk ho3
                have HB3 := Aside0.mk (show Below w.heap.size w w3 from (below_drew (below_step HB1.out (below_alloc (Below.refl _ _) (.cells #[.int .u8 0] 5)))).trans hb3)
                clear ho3 hb3))
            have hdd : xs.drop (k + 2) = l0.drop (p + k + 2) := by rw [HXS.out, List.drop_drop]; congr 1
            have hc2 : Kd.C (Kd.int .u8) w AX q (l0.drop (p + k + 2)) := hdd ▸ HC2.out
            have hr2 : R = splitGo (l0.drop (p + k + 2)) (F ++ [0]) := hdd ▸ HR2.out
            have hn1 := HN.out
            have hq1 := HQ.out
            have hl1 : (F ++ [0]).length ≤ p + k + 2 := by rw [List.length_append]; simp only [List.length_cons, List.length_nil]; omega
            first
            | exact ⟨⟨AX, p + k + 2, q, c - k - 2, F ++ [0], by omega, by omega, rfl, hqc, ⟨hc2⟩, ⟨HO3.out⟩, hl1, ⟨hr2⟩, ⟨HB3.out⟩⟩, by show q < n; omega⟩
            | (refine ⟨?_, by show q < n; omega⟩; (repeat apply Exists.intro); exact ⟨⟨AX, p + k + 2, q, c - k - 2, F ++ [0], by omega, by omega, rfl, hqc, ⟨hc2⟩, ⟨HO3.out⟩, hl1, ⟨hr2⟩, ⟨HB3.out⟩⟩, rfl⟩)
          · have HNE := Aside0.mk h255
            have HR2 := Aside0.mk (HST.out.trans (if_neg h255))
            have hd2 : (dv == 255) = false := beq_eq_false_iff_ne.mpr h255
            clear h255
            by_cases h1 : dv = 1
            · subst h1
              clear hd2
              by_cases hF24 : F.length ≤ 24
              · have d24 : decide ((24 : Int) < (F.length : Int)) = false := decide_eq_false (by omega)
                by_cases hq1 : 1 ≤ q
                · by_cases hq32 : q ≤ 32
                  · have HR3 := Aside0.mk (HR2.out.trans (if_pos ⟨rfl, hF24, hq1, hq32⟩))
                    have d32 : decide ((q : Int) ≤ 32) = true := decide_eq_true (by omega)
                    go_wp2_with (first | (go_at_call 36; refine (HCB.out _ (below_step hb.out (below_alloc (Below.refl wr.heap.size wr) (.cells #[.int .u8 0] 5))) wr.heap.size 1 ((blk_cell (blk_new wr _) 0).trans rfl)).mono ?_; rintro e w1 ⟨⟨u, rfl⟩, nd, rfl⟩) | ((with_reducible refine gate_builtin (b := .append) (xs := #[.tmp 25, .tmp 26]) rfl ?_); at_builtin; refine Rd.append_list w.heap.size rfl (.tmp 25) (.tmp 26) rfl u5 f (xs.take k) (some ad) k c rfl rfl (ho.out.below (show Below wr.heap.size wr ((wr.alloc (.cells #[.int .u8 0] 5)).drewN nd) from pw_below_drewN (below_alloc (Below.refl _ _) _) nd)) (Kd.C_below HCT.out (show Below w.heap.size w ((wr.alloc (.cells #[.int .u8 0] 5)).drewN nd) from pw_below_drewN (below_step hb.out (below_alloc (Below.refl _ _) _)) nd)) (show w.heap.size ≤ ((wr.alloc (.cells #[.int .u8 0] 5)).drewN nd).heap.size from (pw_below_drewN (below_step hb.out (below_alloc (Below.refl _ _) _)) nd).size) (by omega) ?_; intro v1 w2 ho1 hb1 hg1 hat; rw [← HF.out] at ho1; obtain ⟨A1, c1, e1, hc1, hC1, hlo1⟩ := Rd.Own.reads ho1; subst e1; have HO1 := Aside0.mk ho1; have HB1 := Aside0.mk (show Below w.heap.size w w2 from (pw_below_drewN (below_step hb.out (below_alloc (Below.refl _ _) _)) nd).trans hb1); have HC1 := Aside0.mk hC1; have HLO := Aside0.mk hlo1; have hdw : w2.cell? ⟨ak.block, ak.off + 1, none⟩ = _ := pw_cell_below HB1.out hd; clear ho1 hb1 hg1 hat hC1 hlo1) | (go_at_call 37; refine (row_long.walk _ _ _ _).mono ?_; rintro e w' ⟨rfl, rfl⟩) | (go_at_call 19; refine (mayKey.walk _ _ _ hq1 _).mono ?_; rintro e w' ⟨rfl, rfl⟩) | (go_at_call 38; have hcl := clone.walk AX (c - k - 2) (xs.drop (k + 2)) w2 (by rw [HLK.out]; exact Kd.C_below HC2.out HB1.out) (by rw [HLK.out]; exact hqc) (by rw [HLK.out]; omega); rw [HLK.out] at hcl; refine hcl.mono ?_; clear hcl; rintro e w3 ⟨v3, rfl, ho3, hb3⟩; have HO3 := Aside0.mk ho3; have HB3 := Aside0.mk hb3; clear ho3 hb3))
                    go_ret3
                    rw [HR3.out]
                    exact SplitPost.yes HO1.out HB1.out HO3.out HB3.out
                  · have HR3 := Aside0.mk (HR2.out.trans (if_neg fun h => hq32 h.2.2.2))
                    have d32 : decide ((q : Int) ≤ 32) = false := decide_eq_false (by omega)
                    go_wp2_with (first | (go_at_call 36; refine (HCB.out _ (below_step hb.out (below_alloc (Below.refl wr.heap.size wr) (.cells #[.int .u8 0] 5))) wr.heap.size 1 ((blk_cell (blk_new wr _) 0).trans rfl)).mono ?_; rintro e w1 ⟨⟨u, rfl⟩, nd, rfl⟩) | ((with_reducible refine gate_builtin (b := .append) (xs := #[.tmp 25, .tmp 26]) rfl ?_); at_builtin; refine Rd.append_list w.heap.size rfl (.tmp 25) (.tmp 26) rfl u5 f (xs.take k) (some ad) k c rfl rfl (ho.out.below (show Below wr.heap.size wr ((wr.alloc (.cells #[.int .u8 0] 5)).drewN nd) from pw_below_drewN (below_alloc (Below.refl _ _) _) nd)) (Kd.C_below HCT.out (show Below w.heap.size w ((wr.alloc (.cells #[.int .u8 0] 5)).drewN nd) from pw_below_drewN (below_step hb.out (below_alloc (Below.refl _ _) _)) nd)) (show w.heap.size ≤ ((wr.alloc (.cells #[.int .u8 0] 5)).drewN nd).heap.size from (pw_below_drewN (below_step hb.out (below_alloc (Below.refl _ _) _)) nd).size) (by omega) ?_; intro v1 w2 ho1 hb1 hg1 hat; rw [← HF.out] at ho1; obtain ⟨A1, c1, e1, hc1, hC1, hlo1⟩ := Rd.Own.reads ho1; subst e1; have HO1 := Aside0.mk ho1; have HB1 := Aside0.mk (show Below w.heap.size w w2 from (pw_below_drewN (below_step hb.out (below_alloc (Below.refl _ _) _)) nd).trans hb1); have HC1 := Aside0.mk hC1; have HLO := Aside0.mk hlo1; have hdw : w2.cell? ⟨ak.block, ak.off + 1, none⟩ = _ := pw_cell_below HB1.out hd; clear ho1 hb1 hg1 hat hC1 hlo1) | (go_at_call 37; refine (row_long.walk _ _ _ _).mono ?_; rintro e w' ⟨rfl, rfl⟩) | (go_at_call 19; refine (mayKey.walk _ _ _ hq1 _).mono ?_; rintro e w' ⟨rfl, rfl⟩) | (go_at_call 38; have hcl := clone.walk AX (c - k - 2) (xs.drop (k + 2)) w2 (by rw [HLK.out]; exact Kd.C_below HC2.out HB1.out) (by rw [HLK.out]; exact hqc) (by rw [HLK.out]; omega); rw [HLK.out] at hcl; refine hcl.mono ?_; clear hcl; rintro e w3 ⟨v3, rfl, ho3, hb3⟩; have HO3 := Aside0.mk ho3; have HB3 := Aside0.mk hb3; clear ho3 hb3))
                    go_ret3
                    rw [HR3.out]
                    exact SplitPost.no _ _ HB1.out
                · have HR3 := Aside0.mk (HR2.out.trans (if_neg fun h => hq1 h.2.2.1))
                  obtain rfl : q = 0 := by omega
                  go_wp2_with (first | (go_at_call 36; refine (HCB.out _ (below_step hb.out (below_alloc (Below.refl wr.heap.size wr) (.cells #[.int .u8 0] 5))) wr.heap.size 1 ((blk_cell (blk_new wr _) 0).trans rfl)).mono ?_; rintro e w1 ⟨⟨u, rfl⟩, nd, rfl⟩) | ((with_reducible refine gate_builtin (b := .append) (xs := #[.tmp 25, .tmp 26]) rfl ?_); at_builtin; refine Rd.append_list w.heap.size rfl (.tmp 25) (.tmp 26) rfl u5 f (xs.take k) (some ad) k c rfl rfl (ho.out.below (show Below wr.heap.size wr ((wr.alloc (.cells #[.int .u8 0] 5)).drewN nd) from pw_below_drewN (below_alloc (Below.refl _ _) _) nd)) (Kd.C_below HCT.out (show Below w.heap.size w ((wr.alloc (.cells #[.int .u8 0] 5)).drewN nd) from pw_below_drewN (below_step hb.out (below_alloc (Below.refl _ _) _)) nd)) (show w.heap.size ≤ ((wr.alloc (.cells #[.int .u8 0] 5)).drewN nd).heap.size from (pw_below_drewN (below_step hb.out (below_alloc (Below.refl _ _) _)) nd).size) (by omega) ?_; intro v1 w2 ho1 hb1 hg1 hat; rw [← HF.out] at ho1; obtain ⟨A1, c1, e1, hc1, hC1, hlo1⟩ := Rd.Own.reads ho1; subst e1; have HO1 := Aside0.mk ho1; have HB1 := Aside0.mk (show Below w.heap.size w w2 from (pw_below_drewN (below_step hb.out (below_alloc (Below.refl _ _) _)) nd).trans hb1); have HC1 := Aside0.mk hC1; have HLO := Aside0.mk hlo1; have hdw : w2.cell? ⟨ak.block, ak.off + 1, none⟩ = _ := pw_cell_below HB1.out hd; clear ho1 hb1 hg1 hat hC1 hlo1) | (go_at_call 37; refine (row_long.walk _ _ _ _).mono ?_; rintro e w' ⟨rfl, rfl⟩) | (go_at_call 19; refine (mayKey.zero _ _ _).mono ?_; rintro e w' ⟨rfl, rfl⟩))
                  go_ret3
                  rw [HR3.out]
                  exact SplitPost.no _ _ HB1.out
              · have HR3 := Aside0.mk (HR2.out.trans (if_neg fun h => hF24 h.2.1))
                have d24 : decide ((24 : Int) < (F.length : Int)) = true := decide_eq_true (by omega)
                go_wp2_with (first | (go_at_call 36; refine (HCB.out _ (below_step hb.out (below_alloc (Below.refl wr.heap.size wr) (.cells #[.int .u8 0] 5))) wr.heap.size 1 ((blk_cell (blk_new wr _) 0).trans rfl)).mono ?_; rintro e w1 ⟨⟨u, rfl⟩, nd, rfl⟩) | ((with_reducible refine gate_builtin (b := .append) (xs := #[.tmp 25, .tmp 26]) rfl ?_); at_builtin; refine Rd.append_list w.heap.size rfl (.tmp 25) (.tmp 26) rfl u5 f (xs.take k) (some ad) k c rfl rfl (ho.out.below (show Below wr.heap.size wr ((wr.alloc (.cells #[.int .u8 0] 5)).drewN nd) from pw_below_drewN (below_alloc (Below.refl _ _) _) nd)) (Kd.C_below HCT.out (show Below w.heap.size w ((wr.alloc (.cells #[.int .u8 0] 5)).drewN nd) from pw_below_drewN (below_step hb.out (below_alloc (Below.refl _ _) _)) nd)) (show w.heap.size ≤ ((wr.alloc (.cells #[.int .u8 0] 5)).drewN nd).heap.size from (pw_below_drewN (below_step hb.out (below_alloc (Below.refl _ _) _)) nd).size) (by omega) ?_; intro v1 w2 ho1 hb1 hg1 hat; rw [← HF.out] at ho1; obtain ⟨A1, c1, e1, hc1, hC1, hlo1⟩ := Rd.Own.reads ho1; subst e1; have HO1 := Aside0.mk ho1; have HB1 := Aside0.mk (show Below w.heap.size w w2 from (pw_below_drewN (below_step hb.out (below_alloc (Below.refl _ _) _)) nd).trans hb1); have HC1 := Aside0.mk hC1; have HLO := Aside0.mk hlo1; have hdw : w2.cell? ⟨ak.block, ak.off + 1, none⟩ = _ := pw_cell_below HB1.out hd; clear ho1 hb1 hg1 hat hC1 hlo1) | (go_at_call 37; refine (row_long.walk _ _ _ _).mono ?_; rintro e w' ⟨rfl, rfl⟩) | (go_at_call 19; refine (mayKey.walk _ _ _ hq1 _).mono ?_; rintro e w' ⟨rfl, rfl⟩) | (go_at_call 38; have hcl := clone.walk AX (c - k - 2) (xs.drop (k + 2)) w2 (by rw [HLK.out]; exact Kd.C_below HC2.out HB1.out) (by rw [HLK.out]; exact hqc) (by rw [HLK.out]; omega); rw [HLK.out] at hcl; refine hcl.mono ?_; clear hcl; rintro e w3 ⟨v3, rfl, ho3, hb3⟩; have HO3 := Aside0.mk ho3; have HB3 := Aside0.mk hb3; clear ho3 hb3))
                go_ret3
                rw [HR3.out]
                exact SplitPost.no _ _ HB1.out
            · have HR3 := Aside0.mk (HR2.out.trans (if_neg fun h => h1 h.1))
              have hd1 : (dv == 1) = false := beq_eq_false_iff_ne.mpr h1
              go_wp2_with (first | (go_at_call 36; refine (HCB.out _ (below_step hb.out (below_alloc (Below.refl wr.heap.size wr) (.cells #[.int .u8 0] 5))) wr.heap.size 1 ((blk_cell (blk_new wr _) 0).trans rfl)).mono ?_; rintro e w1 ⟨⟨u, rfl⟩, nd, rfl⟩) | ((with_reducible refine gate_builtin (b := .append) (xs := #[.tmp 25, .tmp 26]) rfl ?_); at_builtin; refine Rd.append_list w.heap.size rfl (.tmp 25) (.tmp 26) rfl u5 f (xs.take k) (some ad) k c rfl rfl (ho.out.below (show Below wr.heap.size wr ((wr.alloc (.cells #[.int .u8 0] 5)).drewN nd) from pw_below_drewN (below_alloc (Below.refl _ _) _) nd)) (Kd.C_below HCT.out (show Below w.heap.size w ((wr.alloc (.cells #[.int .u8 0] 5)).drewN nd) from pw_below_drewN (below_step hb.out (below_alloc (Below.refl _ _) _)) nd)) (show w.heap.size ≤ ((wr.alloc (.cells #[.int .u8 0] 5)).drewN nd).heap.size from (pw_below_drewN (below_step hb.out (below_alloc (Below.refl _ _) _)) nd).size) (by omega) ?_; intro v1 w2 ho1 hb1 hg1 hat; rw [← HF.out] at ho1; obtain ⟨A1, c1, e1, hc1, hC1, hlo1⟩ := Rd.Own.reads ho1; subst e1; have HO1 := Aside0.mk ho1; have HB1 := Aside0.mk (show Below w.heap.size w w2 from (pw_below_drewN (below_step hb.out (below_alloc (Below.refl _ _) _)) nd).trans hb1); have HC1 := Aside0.mk hC1; have HLO := Aside0.mk hlo1; have hdw : w2.cell? ⟨ak.block, ak.off + 1, none⟩ = _ := pw_cell_below HB1.out hd; clear ho1 hb1 hg1 hat hC1 hlo1) | (go_at_call 37; refine (row_long.walk _ _ _ _).mono ?_; rintro e w' ⟨rfl, rfl⟩) | (go_at_call 19; refine (mayKey.walk _ _ _ hq1 _).mono ?_; rintro e w' ⟨rfl, rfl⟩) | (go_at_call 38; have hcl := clone.walk AX (c - k - 2) (xs.drop (k + 2)) w2 (by rw [HLK.out]; exact Kd.C_below HC2.out HB1.out) (by rw [HLK.out]; exact hqc) (by rw [HLK.out]; omega); rw [HLK.out] at hcl; refine hcl.mono ?_; clear hcl; rintro e w3 ⟨v3, rfl, ho3, hb3⟩; have HO3 := Aside0.mk ho3; have HB3 := Aside0.mk hb3; clear ho3 hb3))
              go_ret3
              rw [HR3.out]
              exact SplitPost.no _ _ HB1.out
      · have hN : R = none := by rw [hrr.out]; exact splitGo_none (by rw [HXL.out, ← HK.out]; omega)
        have HNN := Aside0.mk hN
        clear hN
        go_wp2_with (first | (go_at_call 36; refine (HCB.out _ (below_step hb.out (below_alloc (Below.refl wr.heap.size wr) (.cells #[.int .u8 0] 5))) wr.heap.size 1 ((blk_cell (blk_new wr _) 0).trans rfl)).mono ?_; rintro e w1 ⟨⟨u, rfl⟩, nd, rfl⟩) | ((with_reducible refine gate_builtin (b := .append) (xs := #[.tmp 25, .tmp 26]) rfl ?_); at_builtin; refine Rd.append_list w.heap.size rfl (.tmp 25) (.tmp 26) rfl u5 f (xs.take k) (some ad) k c rfl rfl (ho.out.below (show Below wr.heap.size wr ((wr.alloc (.cells #[.int .u8 0] 5)).drewN nd) from pw_below_drewN (below_alloc (Below.refl _ _) _) nd)) (Kd.C_below HCT.out (show Below w.heap.size w ((wr.alloc (.cells #[.int .u8 0] 5)).drewN nd) from pw_below_drewN (below_step hb.out (below_alloc (Below.refl _ _) _)) nd)) (show w.heap.size ≤ ((wr.alloc (.cells #[.int .u8 0] 5)).drewN nd).heap.size from (pw_below_drewN (below_step hb.out (below_alloc (Below.refl _ _) _)) nd).size) (by omega) ?_; intro v1 w2 ho1 hb1 hg1 hat; obtain ⟨A1, c1, e1, hc1, hC1, hlo1⟩ := Rd.Own.reads ho1; subst e1; have HO1 := Aside0.mk ho1; have HB1 := Aside0.mk (show Below w.heap.size w w2 from (pw_below_drewN (below_step hb.out (below_alloc (Below.refl _ _) _)) nd).trans hb1); have HC1 := Aside0.mk hC1; clear ho1 hb1 hg1 hat hC1 hlo1))
        go_ret3
        rw [HNN.out]
        exact SplitPost.no _ _ HB1.out
    · obtain rfl : n = 0 := by omega
      have hN : R = none := by
        rw [hrr.out, show l0.drop p = [] from List.drop_eq_nil_of_le (by omega)]
        simp [splitGo]
      have HN := Aside0.mk hN
      have HB := Aside0.mk hb.out
      clear hN hC ho hrr hb hn hp hfp hnc
      go_wp2
      go_ret3
      rw [HN.out]
      exact SplitPost.no _ _ HB.out
set_option maxRecDepth 100000 in
theorem row_Split.calls (A0 : Option Addr) (c0 : Nat) (l0 : List Int) (r1 r2 : List Int) (r3 : Int) (w : World) (hr0 : Kd.C (Kd.int .u8) w A0 l0.length l0) (hc0 : l0.length ≤ c0) (h : row_Split.f l0 = some (r1, r2, r3)) :
    Calls Try.prog 11 #[.slice A0 l0.length c0] w fun e w' => ∃ v0_ v1_ : Value, e = .returned (.tuple #[v0_, v1_, .int .i64 r3]) ∧ Kd.R (Kd.int .u8) 5 w' w.heap.size (fun k_ => some k_ ≠ (v1_ : Value).ownBlock) v0_ r1 ∧ Kd.R (Kd.int .u8) 5 w' w.heap.size (fun k_ => some k_ ≠ (v0_ : Value).ownBlock) v1_ r2 ∧ Below w.heap.size w w' := by
  unfold row_Split.f at h
  split at h
  · rename_i hc
    have h := Option.some.inj h
    refine (split.walk A0 c0 l0 w hr0 hc0 (bytB_iff hc.1) hc.2).mono fun e w' hp => ?_
    obtain ⟨v0, v1, q1, q2, q3, he, hq, h1, h2, h3⟩ := hp
    have e : (q1, q2, q3) = (r1, r2, r3) := by
      rw [← h]
      cases hs : splitGo l0 [] with
      | none => rw [hs] at hq; exact hq
      | some ab => rw [hs] at hq; exact hq
    cases e
    exact ⟨v0, v1, he, h1, h2, h3⟩
  · cases h

/-! ### garnerlaw13_num: function 13 -/
def garnerlaw13_num.f (a0 : Int) : Option (Int) := some a0
set_option maxHeartbeats 8000000 in
set_option maxRecDepth 100000 in
theorem garnerlaw13_num.calls (a0 : Int) (r : Int) (w : World) (h : garnerlaw13_num.f a0 = some r) :
    Calls Try.prog 13 #[.int .i64 a0] w fun e w' => e = .returned (.int .i64 r) ∧ Drawn0 w w' := by
  have H : (some a0) = some r := h
  clear h
  obtain rfl := Option.some.inj H
  go_enter Try.func13, Try.ntmps13
  go_wp2
  go_ret
  exact ⟨by first | rfl | (simp; done) | (simp [*]; done), by repeat (first | exact Drawn0.refl _ | apply Drawn0.step)⟩

/-! ### row_Front: function 14 -/
/-- A field's front. -/
def frontB (l : List Int) : List Int := (l.map fun c => if c = 0 then [c, 255] else [c]).flatten
def row_Front.f (l0 : List Int) : Option (List Int × Int) := some (if l0.length ≤ 24 then (frontB l0, 0) else ([], 2))
theorem frontB_step (l : List Int) (i : Nat) (h : i < l.length) : frontB (l.take (i + 1)) = frontB (l.take i) ++ (if l[i] = 0 then [l[i], 255] else [l[i]]) := by
  unfold frontB
  rw [List.take_succ_eq_append_getElem h, List.map_append, List.flatten_append]
  simp
theorem frontB_len (l : List Int) : (frontB l).length ≤ 2 * l.length := by
  induction l with
  | nil => simp [frontB]
  | cons x l ih =>
    have : frontB (x :: l) = (if x = 0 then [x, 255] else [x]) ++ frontB l := by simp [frontB]
    rw [this, List.length_append, List.length_cons]
    split <;> simp <;> omega
set_option maxHeartbeats 4000000 in
set_option maxRecDepth 100000 in
theorem row_Front.calls (A0 : Option Addr) (c0 : Nat) (l0 : List Int) (r1 : List Int) (r2 : Int) (w : World) (hr0 : Kd.C (Kd.int .u8) w A0 l0.length l0) (hc0 : l0.length ≤ c0) (h : row_Front.f l0 = some (r1, r2)) :
    Calls Try.prog 14 #[.slice A0 l0.length c0] w fun e w' => ∃ v0_ : Value, e = .returned (.tuple #[v0_, .int .i64 r2]) ∧ Kd.R (Kd.int .u8) 5 w' w.heap.size (fun _ => True) v0_ r1 ∧ Below w.heap.size w w' := by
  have HC := Aside0.mk hr0
  unfold row_Front.f at h
  by_cases hl : l0.length ≤ 24
  · rw [if_pos hl] at h
    simp only [Option.some.injEq, Prod.mk.injEq] at h
    obtain ⟨rfl, rfl⟩ := h
    clear hr0 hc0
    go_enter Try.func14, Try.ntmps14
    go_wp2
    go_step3
    go_wp2_with (first | (go_at_call 37; refine (row_long.walk _ _ _ _).mono ?_; rintro e w' ⟨rfl, rfl⟩))
    try go_step3
    go_wp2
    go_loopw [4, 11] (fun x i w' => ∃ k : Nat, k ≤ l0.length ∧ i = .int .i64 k ∧ Aside0 (Rd.Own w' w.heap.size x (frontB (l0.take k))) ∧ Aside0 (Below w.heap.size w w')) (fun _ i _ => l0.length - (intOf i).toNat)
    case atStart => exact ⟨0, Nat.zero_le _, rfl, ⟨Rd.Own.nil _ _⟩, ⟨Below.refl _ _⟩⟩
    case round =>
      obtain ⟨k, hk, rfl, ho, hb⟩ := hrel
      by_cases hlt : k < l0.length
      · obtain ⟨ad, e, hx⟩ := Kd.at_int HC.out (k : Int) (by omega) (by omega)
        cases e
        simp only [Int.toNat_natCast, Nat.mul_one] at hx
        replace hx := pw_cell_below hb.out hx
        obtain ⟨v, hv⟩ : ∃ v, v = rd l0 (k : Int) := ⟨_, rfl⟩
        rw [← hv] at hx
        have hv2 : v = l0[k] := by rw [hv]; simp [rd, hlt]
        have HV := Aside0.mk hv2
        have hfl := frontB_len (l0.take k)
        rw [List.length_take] at hfl
        have HFL := Aside0.mk (show (frontB (l0.take k)).length ≤ 100 by omega)
        clear hv hv2 hfl
        by_cases h0 : v = 0
        · subst h0
          go_wp2_with (first | ((with_reducible refine gate_builtin (b := .append) (xs := #[.tmp 15, .tmp 17]) rfl ?_); at_builtin; refine Rd.append_list w.heap.size rfl (.tmp 15) (.tmp 17) rfl u4 (frontB (l0.take k)) [0] (some ⟨wr.heap.size, 0, none⟩) 1 1 rfl rfl (ho.out.below (below_alloc (Below.refl _ _) _)) (Rd.C_lit wr .u8 5 [0] (by simp)) (by have := hb.out.size; simp; omega) (by have := HFL.out; omega) ?_; intro v1 w1 ho1 hb1 hg1 hat; have HO1 := Aside0.mk ho1; have HB1 := Aside0.mk hb1; have HS1 := Aside0.mk hb1.size; clear ho1 hb1 hg1 hat) | ((with_reducible refine gate_builtin (b := .append) (xs := #[.tmp 21, .tmp 22]) rfl ?_); at_builtin; refine Rd.append_list w.heap.size rfl (.tmp 21) (.tmp 22) rfl v1 (frontB (l0.take k) ++ [0]) [255] (some ⟨w1.heap.size, 0, none⟩) 1 1 rfl rfl (HO1.out.below (below_alloc (Below.refl _ _) _)) (Rd.C_lit w1 .u8 5 [255] (by simp)) (by have := hb.out.size; have := HS1.out; simp at this ⊢; omega) (by have := HFL.out; simp; omega) ?_; intro v2 w2 ho2 hb2 hg1 hat; have HO2 := Aside0.mk ho2; have HB2 := Aside0.mk hb2; clear ho2 hb2 hg1 hat))
          have hb1 : Below w.heap.size w w1 := (hb.out.trans ((below_alloc (Below.refl wr.heap.size wr) (.cells #[.int .u8 0] 5)).mono hb.out.size)).trans HB1.out
          have hbb : Below w.heap.size w w2 := (hb1.trans ((below_alloc (Below.refl w1.heap.size w1) (.cells #[.int .u8 255] 5)).mono hb1.size)).trans HB2.out
          have hoo : Rd.Own w2 w.heap.size v2 (frontB (l0.take (k + 1))) := by
            rw [frontB_step l0 k hlt, if_pos HV.out.symm, ← HV.out]
            have := HO2.out
            rwa [List.append_assoc] at this
          exact ⟨⟨k + 1, by omega, by simp, ⟨hoo⟩, ⟨hbb⟩⟩, by simp [intOf]; omega⟩
        · have g0 : (v == 0) = false := beq_eq_false_iff_ne.mpr h0
          have g1 : (v != 0) = true := bne_iff_ne.mpr h0
          have H0 := Aside0.mk h0
          clear h0
          go_wp2_with (first | ((with_reducible refine gate_builtin (b := .append) (xs := #[.tmp 15, .tmp 17]) rfl ?_); at_builtin; refine Rd.append_list w.heap.size rfl (.tmp 15) (.tmp 17) rfl u4 (frontB (l0.take k)) [v] (some ⟨wr.heap.size, 0, none⟩) 1 1 rfl rfl (ho.out.below (below_alloc (Below.refl _ _) _)) (Rd.C_lit wr .u8 5 [v] (by simp)) (by have := hb.out.size; simp; omega) (by have := HFL.out; omega) ?_; intro v1 w1 ho1 hb1 hg1 hat; have HO1 := Aside0.mk ho1; have HB1 := Aside0.mk hb1; clear ho1 hb1 hg1 hat))
          have hb1 : Below w.heap.size w w1 := (hb.out.trans ((below_alloc (Below.refl wr.heap.size wr) (.cells #[.int .u8 v] 5)).mono hb.out.size)).trans HB1.out
          have hoo : Rd.Own w1 w.heap.size v1 (frontB (l0.take (k + 1))) := by
            rw [frontB_step l0 k hlt, if_neg (by rw [← HV.out]; exact H0.out), ← HV.out]
            exact HO1.out
          exact ⟨⟨k + 1, by omega, by simp, ⟨hoo⟩, ⟨hb1⟩⟩, by simp [intOf]; omega⟩
      · obtain rfl : k = l0.length := by omega
        go_wp2
        try rw [Exit.noGoto_ret]
        go_ret2
        exact ⟨u4, rfl, by have := ho.out; rw [List.take_length] at this; exact Kd.R_mono this (fun _ _ => trivial), hb.out⟩
  · rw [if_neg hl] at h
    simp only [Option.some.injEq, Prod.mk.injEq] at h
    obtain ⟨rfl, rfl⟩ := h
    clear hr0 hc0
    go_enter Try.func14, Try.ntmps14
    go_wp2
    go_step3
    go_wp2_with (first | (go_at_call 37; refine (row_long.walk _ _ _ _).mono ?_; rintro e w' ⟨rfl, rfl⟩))
    try rw [Exit.noGoto_ret]
    go_ret2
    exact ⟨_, rfl, Kd.R_nil _ _ _ _ _, Below.refl _ _⟩

/-! ### row_Entry: function 15 -/
def row_Entry.f (l0 : List Int) (l1 : List Int) : Option (List Int × Int) := (row_Front.f l0).bind fun bt102 => (if bt102.2 = 0 then ((row_MayKey.f l1).bind fun t106 => (if t106 = true then ((some (([0, 1] : List Int) : List Int)).bind fun y107 => (if bt102.1.length + y107.length < 140737488355328 then ((some (bt102.1 ++ y107 : List Int)).bind fun y110 => (if y110.length + l1.length < 140737488355328 then (some ((y110 ++ l1), 0)) else (none))) else (none))) else (some (([] : List Int), 2)))) else (some (([] : List Int), 2)))
set_option maxHeartbeats 8000000 in
set_option maxRecDepth 100000 in
theorem row_Entry.calls (A0 : Option Addr) (c0 : Nat) (l0 : List Int) (A1 : Option Addr) (c1 : Nat) (l1 : List Int) (r1 : List Int) (r2 : Int) (w : World) (hr0 : Kd.C (Kd.int .u8) w A0 l0.length l0) (hc0 : l0.length ≤ c0) (hr1 : Kd.C (Kd.int .u8) w A1 l1.length l1) (hc1 : l1.length ≤ c1) (h : row_Entry.f l0 l1 = some (r1, r2)) :
    Calls Try.prog 15 #[.slice A0 l0.length c0, .slice A1 l1.length c1] w fun e w' => ∃ v0_ : Value, e = .returned (.tuple #[v0_, .int .i64 r2]) ∧ Kd.R (Kd.int .u8) 5 w' w.heap.size (fun _ => True) v0_ r1 ∧ Below w.heap.size w w' := by
  have HR0 := Aside0.mk hr0
  have HC0 := Aside0.mk hc0
  clear hr0 hc0
  have HR1 := Aside0.mk hr1
  have HC1 := Aside0.mk hc1
  clear hr1 hc1
  have HB := Aside0.mk (Below.refl w.heap.size w)
  have H : ((row_Front.f l0).bind fun bt102 => (if bt102.2 = 0 then ((row_MayKey.f l1).bind fun t106 => (if t106 = true then ((some (([0, 1] : List Int) : List Int)).bind fun y107 => (if bt102.1.length + y107.length < 140737488355328 then ((some (bt102.1 ++ y107 : List Int)).bind fun y110 => (if y110.length + l1.length < 140737488355328 then (some ((y110 ++ l1), 0)) else (none))) else (none))) else (some (([] : List Int), 2)))) else (some (([] : List Int), 2)))) = some (r1, r2) := h
  clear h
  replace H := Option.bind_eq_some_iff.mp H
  obtain ⟨⟨t102, t103⟩, A30, H⟩ := H
  replace H : (if t103 = 0 then ((row_MayKey.f l1).bind fun t106 => (if t106 = true then ((some (([0, 1] : List Int) : List Int)).bind fun y107 => (if t102.length + y107.length < 140737488355328 then ((some (t102 ++ y107 : List Int)).bind fun y110 => (if y110.length + l1.length < 140737488355328 then (some ((y110 ++ l1), 0)) else (none))) else (none))) else (some (([] : List Int), 2)))) else (some (([] : List Int), 2))) = some (r1, r2) := H
  have A3 := Aside0.mk A30
  clear A30
  by_cases c4 : t103 = 0
  · rw [if_pos c4] at H
    have c4b0 : (t103 == 0) = true := beq_iff_eq.mpr c4
    have c4b1 : (t103 != 0) = false := bne_eq_false_iff_eq.mpr c4
    clear c4
    replace H := Option.bind_eq_some_iff.mp H
    obtain ⟨t106, A50, H⟩ := H
    replace H : (if t106 = true then ((some (([0, 1] : List Int) : List Int)).bind fun y107 => (if t102.length + y107.length < 140737488355328 then ((some (t102 ++ y107 : List Int)).bind fun y110 => (if y110.length + l1.length < 140737488355328 then (some ((y110 ++ l1), 0)) else (none))) else (none))) else (some (([] : List Int), 2))) = some (r1, r2) := H
    have A5 := Aside0.mk A50
    clear A50
    by_cases c6 : t106 = true
    · subst c6
      have H1 : ((some (([0, 1] : List Int) : List Int)).bind fun y107 => (if t102.length + y107.length < 140737488355328 then ((some (t102 ++ y107 : List Int)).bind fun y110 => (if y110.length + l1.length < 140737488355328 then (some ((y110 ++ l1), 0)) else (none))) else (none))) = some (r1, r2) := by rw [if_pos rfl] at H; exact H
      clear H
      have H := H1
      clear H1
      obtain ⟨y107, hy107⟩ : ∃ y_ : List Int, y_ = (([0, 1] : List Int)) := ⟨_, rfl⟩
      replace H : (if t102.length + y107.length < 140737488355328 then ((some (t102 ++ y107 : List Int)).bind fun y110 => (if y110.length + l1.length < 140737488355328 then (some ((y110 ++ l1), 0)) else (none))) else (none)) = some (r1, r2) := by first | (rw [hy107]; with_reducible exact H) | (have H2_ := (Option.bind_some _ _).symm.trans H; rw [hy107]; with_reducible exact H2_) | (have H2_ := (Option.bind_some _ _).symm.trans H; with_reducible exact H2_) | with_reducible exact H | (rw [hy107]; exact H) | exact H
      have Ny107 := Aside0.mk hy107
      clear hy107
      by_cases c7 : t102.length + y107.length < 140737488355328
      · rw [if_pos c7] at H
        have LMc7 := Aside0.mk c7
        clear c7
        obtain ⟨y110, hy110⟩ : ∃ y_ : List Int, y_ = (t102 ++ y107) := ⟨_, rfl⟩
        replace H : (if y110.length + l1.length < 140737488355328 then (some ((y110 ++ l1), 0)) else (none)) = some (r1, r2) := by first | (rw [hy110]; with_reducible exact H) | (have H2_ := (Option.bind_some _ _).symm.trans H; rw [hy110]; with_reducible exact H2_) | (have H2_ := (Option.bind_some _ _).symm.trans H; with_reducible exact H2_) | with_reducible exact H | (rw [hy110]; exact H) | exact H
        have Ny110 := Aside0.mk hy110
        clear hy110
        by_cases c8 : y110.length + l1.length < 140737488355328
        · rw [if_pos c8] at H
          have LMc8 := Aside0.mk c8
          clear c8
          obtain ⟨y113, hy113⟩ : ∃ y_ : List Int, y_ = (y110 ++ l1) := ⟨_, rfl⟩
          replace H : (some (y113, 0)) = some (r1, r2) := by first | (rw [hy113]; with_reducible exact H) | (have H2_ := (Option.bind_some _ _).symm.trans H; rw [hy113]; with_reducible exact H2_) | (have H2_ := (Option.bind_some _ _).symm.trans H; with_reducible exact H2_) | with_reducible exact H | (rw [hy113]; exact H) | exact H
          have Ny113 := Aside0.mk hy113
          clear hy113
          simp only [Option.some.injEq, Prod.mk.injEq] at H
          obtain ⟨rfl, rfl⟩ := H
          go_enter Try.func15, Try.ntmps15
          go_wp2_with (first | ((with_reducible refine gate_callee (f := 14) rfl ?_); refine goesL_ (some 10) rfl rfl Try.func14 (by kernel_rfl) rfl #[.slice A0 l0.length c0] rfl (by (try simp only [List.map_toArray, List.map_cons, List.map_nil]); first | done | rfl | (simp only [List.length_drop, List.length_take]; rfl)) ?_; (with_reducible refine (row_Front.calls _ _ l0 t102 t103 _ ?side1 ?side2 A3.out).mono ?_); (case side1 => repeat (first | exact HR0.out | (with_reducible refine Kd.C_alloc ?_ _) | (with_reducible refine Kd.C_drewN ?_ _) | (with_reducible refine Kd.C_drew ?_))); (case side2 => exact HC0.out); rintro e w9 ⟨v104, rfl, ho0, hb⟩; refine ⟨_, rfl, ?_⟩; have n0_ := Aside0.mk (Kd.R_lower ho0 (below_size (by repeat (first | (with_reducible first | exact HB.out | apply below_alloc | apply pw_below_drewN | apply below_drew1) | exact HB.out)))); have n1_ := Aside0.mk (below_step (by repeat (first | (with_reducible first | exact HB.out | apply below_alloc | apply pw_below_drewN | apply below_drew1) | exact HB.out)) hb); clear HB; have HO105 := n0_; have HB := n1_; clear n0_ n1_; (try clear hb); (try clear hb2); (try clear hk); (try clear hi); (try clear ho0)) | (go_at_call 19; (with_reducible refine (row_MayKey.calls _ _ l1 true _ ?side1 ?side2 A5.out).mono ?_); (case side1 => repeat (first | exact (Kd.C_below HR1.out HB.out) | (with_reducible refine Kd.C_alloc ?_ _) | (with_reducible refine Kd.C_drewN ?_ _) | (with_reducible refine Kd.C_drew ?_))); (case side2 => exact HC1.out); rintro e w' ⟨rfl, ⟨nd, rfl⟩⟩) | ((with_reducible refine gate_dst (N := 21) rfl ?_); refine Kd.R_lit (Kd.int .u8) _ 5 ?hg (N := 21) ?hd (xs := ([0, 1] : List Int)) (inner := [.int .u8 0, .int .u8 1]) (ok := fun _ => True) (okp := fun _ => True) ?hr ?hp (fun _ hk => hk) trivial (Below.refl _ _) (Nat.le_refl _) (by simp) ?_; (case hd => rfl); (case hg => rfl); (case hr => first | (go_simp; done) | (go_simp; rfl)); (case hp => exact (Reps.one (show Kd.M (Kd.int .u8) _ _ _ 0 [.int .u8 0] from rfl) (Reps.one (show Kd.M (Kd.int .u8) _ _ _ 1 [.int .u8 1] from rfl) (Reps.none _ _)))); intro v108 w10 ho11 hb hg_ hnew_; clear hg_ hnew_; (first | rw [← Ny107.out] at ho11 | (simp only [Int.reduceToNat] at ho11; rw [← Ny107.out] at ho11)); have n0_ := Aside0.mk (Kd.R_elder' (by (with_reducible repeat (first | apply Kd.R_alloc | apply Kd.R_drewN | apply Kd.R_drew)); exact HO105.out) (Kd.R_base ho11) hb); have n1_ := Aside0.mk (Kd.R_lower (Kd.R_new' ho11 (Kd.R_lt (by (with_reducible repeat (first | apply Kd.R_alloc | apply Kd.R_drewN | apply Kd.R_drew)); exact HO105.out))) (below_size (by repeat (first | (with_reducible first | exact HB.out | apply below_alloc | apply pw_below_drewN | apply below_drew1) | exact HB.out)))); have n2_ := Aside0.mk (below_step (by repeat (first | (with_reducible first | exact HB.out | apply below_alloc | apply pw_below_drewN | apply below_drew1) | exact HB.out)) hb); clear HO105; clear HB; have HO105 := n0_; have HO109 := n1_; have HB := n2_; clear n0_ n1_ n2_; clear hb ho11; obtain ⟨Ao13, co13, eo13⟩ := Kd.R_slice HO109.out; subst eo13) | ((with_reducible refine gate_builtin (b := .append) (xs := #[.tmp 20, .tmp 21]) rfl ?_); at_builtin; refine Kd.R_append_rows (Kd.int .u8) (w0 := w) w.heap.size rfl (.tmp 20) (.tmp 21) 22 5 (.int .u8 0) 1 rfl Try.underlying22 info5 rfl (by decide) (by omega) v104 t102 y107 _ _ _ (fun k_ => some k_ ≠ (.slice Ao13 y107.length co13 : Value).ownBlock) (fun _ => False) rfl rfl ?aO ?aR (fun _ _ h => h) (fun _ h => h.elim) ?aF ?aB ?aS ?aL ?_; (case aR => repeat (first | exact (Kd.R_reads' HO109.out).2.2 | (with_reducible refine Kd.C_alloc ?_ _) | (with_reducible refine Kd.C_drewN ?_ _) | (with_reducible refine Kd.C_drew ?_))); (case aB => exact (by repeat (first | (with_reducible first | exact HB.out | apply below_alloc | apply pw_below_drewN | apply below_drew1) | exact HB.out))); (case aF => exact (fun k_ hk => Kd.fresh' (Kd.R_lt (by (with_reducible repeat (first | apply Kd.R_alloc | apply Kd.R_drewN | apply Kd.R_drew)); exact HO109.out)) k_ hk)); (case aO => exact (by (with_reducible repeat (first | apply Kd.R_alloc | apply Kd.R_drewN | apply Kd.R_drew)); exact Kd.R_mono HO105.out (fun _ hk => hk.2))); (case aS => exact (below_size (by repeat (first | (with_reducible first | exact HB.out | apply below_alloc | apply pw_below_drewN | apply below_drew1) | exact HB.out)))); (case aL => have := LMc7.out; omega); intro v111 w12 ho hb hg hat; rw [← Ny110.out] at ho; have n0_ := Aside0.mk (Kd.R_after (ok := (fun _ => True)) (by (with_reducible repeat (first | apply Kd.R_alloc | apply Kd.R_drewN | apply Kd.R_drew)); exact HO109.out) hg hat); have n1_ := Aside0.mk (hb); have n2_ := Aside0.mk (ho); clear HO109; clear HB; clear HO105; have HO109 := n0_; have HB := n1_; have HO112 := n2_; clear n0_ n1_ n2_; clear ho hb hg hat) | ((with_reducible refine gate_builtin (b := .append) (xs := #[.tmp 22, .tmp 23]) rfl ?_); at_builtin; refine Kd.R_append_rows (Kd.int .u8) (w0 := w) w.heap.size rfl (.tmp 22) (.tmp 23) 22 5 (.int .u8 0) 1 rfl Try.underlying22 info5 rfl (by decide) (by omega) v111 y110 l1 _ _ _ (fun k_ => some k_ ≠ (.slice Ao13 y107.length co13 : Value).ownBlock) (fun _ => False) rfl rfl ?aO ?aR (fun _ _ h => h) (fun _ h => h.elim) ?aF ?aB ?aS ?aL ?_; (case aR => repeat (first | exact (Kd.C_below HR1.out HB.out) | (with_reducible refine Kd.C_alloc ?_ _) | (with_reducible refine Kd.C_drewN ?_ _) | (with_reducible refine Kd.C_drew ?_))); (case aB => exact (by repeat (first | (with_reducible first | exact HB.out | apply below_alloc | apply pw_below_drewN | apply below_drew1) | exact HB.out))); (case aF => exact (fun k_ hk => Kd.fresh' (Kd.R_lt (by (with_reducible repeat (first | apply Kd.R_alloc | apply Kd.R_drewN | apply Kd.R_drew)); exact HO109.out)) k_ hk)); (case aO => exact (by (with_reducible repeat (first | apply Kd.R_alloc | apply Kd.R_drewN | apply Kd.R_drew)); exact HO112.out)); (case aS => exact (below_size (by repeat (first | (with_reducible first | exact HB.out | apply below_alloc | apply pw_below_drewN | apply below_drew1) | exact HB.out)))); (case aL => have := LMc8.out; omega); intro v114 w14 ho hb hg hat; rw [← Ny113.out] at ho; have n0_ := Aside0.mk (Kd.R_after (ok := (fun _ => True)) (by (with_reducible repeat (first | apply Kd.R_alloc | apply Kd.R_drewN | apply Kd.R_drew)); exact HO109.out) hg hat); have n1_ := Aside0.mk (hb); have n2_ := Aside0.mk (ho); clear HO109; clear HB; clear HO112; have HO109 := n0_; have HB := n1_; have HO115 := n2_; clear n0_ n1_ n2_; clear ho hb hg hat))
          go_ret2
          exact ⟨_, by first | rfl | (simp [errW_none, errW_some] <;> rfl) | (simp [*, errW_none, errW_some] <;> rfl), by (with_reducible repeat (first | apply Kd.R_alloc | apply Kd.R_drewN | apply Kd.R_drew)); exact Kd.R_mono HO115.out (fun _ hk => trivial), by repeat (first | (with_reducible first | exact HB.out | apply below_alloc | apply pw_below_drewN | apply below_drew1) | exact HB.out)⟩
        · rw [if_neg c8] at H
          exact absurd H (by simp)
      · rw [if_neg c7] at H
        exact absurd H (by simp)
    · replace c6 := Bool.eq_false_iff.mpr c6
      subst c6
      have H1 : (some (([] : List Int), 2)) = some (r1, r2) := by rw [if_neg (show ¬ (false = true) by decide)] at H; exact H
      clear H
      have H := H1
      clear H1
      simp only [Option.some.injEq, Prod.mk.injEq] at H
      obtain ⟨rfl, rfl⟩ := H
      go_enter Try.func15, Try.ntmps15
      go_wp2_with (first | ((with_reducible refine gate_callee (f := 14) rfl ?_); refine goesL_ (some 10) rfl rfl Try.func14 (by kernel_rfl) rfl #[.slice A0 l0.length c0] rfl (by (try simp only [List.map_toArray, List.map_cons, List.map_nil]); first | done | rfl | (simp only [List.length_drop, List.length_take]; rfl)) ?_; (with_reducible refine (row_Front.calls _ _ l0 t102 t103 _ ?side1 ?side2 A3.out).mono ?_); (case side1 => repeat (first | exact HR0.out | (with_reducible refine Kd.C_alloc ?_ _) | (with_reducible refine Kd.C_drewN ?_ _) | (with_reducible refine Kd.C_drew ?_))); (case side2 => exact HC0.out); rintro e w15 ⟨v104, rfl, ho0, hb⟩; refine ⟨_, rfl, ?_⟩; have n0_ := Aside0.mk (Kd.R_lower ho0 (below_size (by repeat (first | (with_reducible first | exact HB.out | apply below_alloc | apply pw_below_drewN | apply below_drew1) | exact HB.out)))); have n1_ := Aside0.mk (below_step (by repeat (first | (with_reducible first | exact HB.out | apply below_alloc | apply pw_below_drewN | apply below_drew1) | exact HB.out)) hb); clear HB; have HO105 := n0_; have HB := n1_; clear n0_ n1_; (try clear hb); (try clear hb2); (try clear hk); (try clear hi); (try clear ho0)) | (go_at_call 19; (with_reducible refine (row_MayKey.calls _ _ l1 false _ ?side1 ?side2 A5.out).mono ?_); (case side1 => repeat (first | exact (Kd.C_below HR1.out HB.out) | (with_reducible refine Kd.C_alloc ?_ _) | (with_reducible refine Kd.C_drewN ?_ _) | (with_reducible refine Kd.C_drew ?_))); (case side2 => exact HC1.out); rintro e w' ⟨rfl, ⟨nd, rfl⟩⟩))
      go_ret2
      exact ⟨_, by first | rfl | (simp [errW_none, errW_some] <;> rfl) | (simp [*, errW_none, errW_some] <;> rfl), by first | exact Kd.R_nil _ _ _ _ _ | exact Kd.N_nil _ _ _ _ _ | exact Kd.V_nil _ _ _ _ _ | exact Kd.Q_nil _ _ _ _ _ | exact Kd.S_nil _ _ _ _ _, by repeat (first | (with_reducible first | exact HB.out | apply below_alloc | apply pw_below_drewN | apply below_drew1) | exact HB.out)⟩
  · rw [if_neg c4] at H
    have c4b0 : (t103 == 0) = false := beq_eq_false_iff_ne.mpr c4
    have c4b1 : (t103 != 0) = true := bne_iff_ne.mpr c4
    simp only [Option.some.injEq, Prod.mk.injEq] at H
    obtain ⟨rfl, rfl⟩ := H
    go_enter Try.func15, Try.ntmps15
    go_wp2_with (first | ((with_reducible refine gate_callee (f := 14) rfl ?_); refine goesL_ (some 10) rfl rfl Try.func14 (by kernel_rfl) rfl #[.slice A0 l0.length c0] rfl (by (try simp only [List.map_toArray, List.map_cons, List.map_nil]); first | done | rfl | (simp only [List.length_drop, List.length_take]; rfl)) ?_; (with_reducible refine (row_Front.calls _ _ l0 t102 t103 _ ?side1 ?side2 A3.out).mono ?_); (case side1 => repeat (first | exact HR0.out | (with_reducible refine Kd.C_alloc ?_ _) | (with_reducible refine Kd.C_drewN ?_ _) | (with_reducible refine Kd.C_drew ?_))); (case side2 => exact HC0.out); rintro e w16 ⟨v104, rfl, ho0, hb⟩; refine ⟨_, rfl, ?_⟩; have n0_ := Aside0.mk (Kd.R_lower ho0 (below_size (by repeat (first | (with_reducible first | exact HB.out | apply below_alloc | apply pw_below_drewN | apply below_drew1) | exact HB.out)))); have n1_ := Aside0.mk (below_step (by repeat (first | (with_reducible first | exact HB.out | apply below_alloc | apply pw_below_drewN | apply below_drew1) | exact HB.out)) hb); clear HB; have HO105 := n0_; have HB := n1_; clear n0_ n1_; (try clear hb); (try clear hb2); (try clear hk); (try clear hi); (try clear ho0)))
    go_ret2
    exact ⟨_, by first | rfl | (simp [errW_none, errW_some] <;> rfl) | (simp [*, errW_none, errW_some] <;> rfl), by first | exact Kd.R_nil _ _ _ _ _ | exact Kd.N_nil _ _ _ _ _ | exact Kd.V_nil _ _ _ _ _ | exact Kd.Q_nil _ _ _ _ _ | exact Kd.S_nil _ _ _ _ _, by repeat (first | (with_reducible first | exact HB.out | apply below_alloc | apply pw_below_drewN | apply below_drew1) | exact HB.out)⟩

-- NOT PRINTED: function 60 (api_Row_byte_60)

-- NOT PRINTED: function 46 (api_Row_byte_46)

/-! ### row_May: function 27 -/
def mayB (l : List (List Int)) : Bool := decide (1 ≤ l.length) && (decide (l.length ≤ 3) && l.all fun f => decide (f.length ≤ 24))
def row_May.f (l0 : List (List Int)) : Option Bool := some (mayB l0)
/-- Where the first field that is too long stands. -/
def longAt (l : List (List Int)) (i : Nat) : Prop := ∀ j, j < i → ∀ f, l[j]? = some f → f.length ≤ 24
set_option maxHeartbeats 4000000 in
set_option maxRecDepth 100000 in
theorem longs.walk (A : Option Addr) (c : Nat) (l : List (List Int)) (w : World) (h : Kd.C (Kd.slice 5 (Kd.int .u8)) w A l.length l) :
    Calls Try.prog 60 #[.slice A l.length c, .func (.func 37) #[] #[]] w fun e w' => (∃ r : Int, e = .returned (.int .i64 r) ∧ decide (0 ≤ r) = !(l.all fun f => decide (f.length ≤ 24))) ∧ w = w' := by
  have H := Aside0.mk h
  clear h
  go_enter Try.func60, Try.ntmps60
  go_wp2
  go_loop [8] (fun v => ∃ i : Nat, v = .int .i64 i ∧ i ≤ l.length ∧ ∀ j (hj : j < l.length), j < i → l[j].length ≤ 24) (fun v => l.length - (intOf v).toNat)
  case atStart => exact ⟨0, rfl, Nat.zero_le _, fun j _ hj => by omega⟩
  case round =>
    obtain ⟨i, rfl, hi, hb⟩ := hrel
    have HB := Aside0.mk hb
    clear hb
    by_cases hlt : i < l.length
    · obtain ⟨ad, B, cc, rfl, hx, hcc, hC⟩ := Rd.C_row_get H.out i hlt
      have HC := Aside0.mk hC
      obtain ⟨n, hn⟩ : ∃ n, n = l[i].length := ⟨_, rfl⟩
      rw [← hn] at hx
      have HN := Aside0.mk hn
      have hm : l.length ≤ 9223372036854775807 := H.out.2.1
      clear hC hcc hn
      go_wp2_with (first | (go_at_call 37; refine (row_long.walk _ _ _ _).mono ?_; rintro e w' ⟨rfl, rfl⟩))
      · go_ret
        refine ⟨⟨(i : Int), rfl, ?_⟩, rfl⟩
        have hx : (l.all fun f => decide (f.length ≤ 24)) = false := by
          rw [List.all_eq_false]
          exact ⟨l[i], List.getElem_mem hlt, by have := HN.out; simp; omega⟩
        rw [hx]
        simp
      · exact ⟨⟨i + 1, by simp, by omega, fun j hj hj2 => by
          by_cases e : j = i
          · subst e; have := HN.out; omega
          · exact HB.out j hj (by omega)⟩, by simp [intOf]; omega⟩
    · obtain rfl : i = l.length := by omega
      go_wp2
      go_ret
      refine ⟨⟨-1, rfl, ?_⟩, rfl⟩
      have : (l.all fun f => decide (f.length ≤ 24)) = true := by
        rw [List.all_eq_true]
        intro f hf
        obtain ⟨j, hj, rfl⟩ := List.mem_iff_getElem.1 hf
        exact decide_eq_true (HB.out j hj hj)
      rw [this]
      decide
theorem contains.walk (A : Option Addr) (c : Nat) (l : List (List Int)) (w : World) (h : Kd.C (Kd.slice 5 (Kd.int .u8)) w A l.length l) :
    Calls Try.prog 46 #[.slice A l.length c, .func (.func 37) #[] #[]] w fun e w' => e = .returned (.bool (!(l.all fun f => decide (f.length ≤ 24)))) ∧ w = w' := by
  have H := Aside0.mk h
  clear h
  go_enter Try.func46, Try.ntmps46
  go_wp2_with (first | (go_at_call 60; refine (longs.walk _ _ _ _ H.out).mono ?_; rintro e w' ⟨⟨r, rfl, hr⟩, rfl⟩; have HR := Aside0.mk hr; clear hr))
  go_ret
  exact ⟨congrArg (fun z => Ending.returned (Value.bool z)) HR.out, rfl⟩
theorem row_May.calls (A0 : Option Addr) (c0 : Nat) (l0 : List (List Int)) (r : Bool) (w : World) (hr0 : Kd.C (Kd.slice 5 (Kd.int .u8)) w A0 l0.length l0) (hc0 : l0.length ≤ c0) (h : row_May.f l0 = some r) :
    Calls Try.prog 27 #[.slice A0 l0.length c0] w fun e w' => e = .returned (.bool r) ∧ Drawn0 w w' := by
  obtain rfl := Option.some.inj h
  have H := Aside0.mk hr0
  clear h hr0
  unfold mayB
  obtain ⟨z, hz⟩ : ∃ z, z = (l0.all fun f => decide (f.length ≤ 24)) := ⟨_, rfl⟩
  rw [← hz]
  have hcon := contains.walk A0 c0 l0 w H.out
  rw [← hz] at hcon
  have HCON := Aside0.mk hcon
  clear hz hcon
  by_cases h1 : 1 ≤ l0.length
  · by_cases h2 : l0.length ≤ 3
    · go_enter Try.func27, Try.ntmps27
      go_wp2_with (first | (go_at_call 46; refine HCON.out.mono ?_; rintro e w' ⟨rfl, rfl⟩))
      go_ret
      exact ⟨by simp [h1, h2], 0, rfl⟩
    · go_enter Try.func27, Try.ntmps27
      go_wp2
      go_ret
      exact ⟨by simp [h2], 0, rfl⟩
  · go_enter Try.func27, Try.ntmps27
    go_wp2
    go_ret
    exact ⟨by simp [h1], 0, rfl⟩

-- NOT PRINTED: function 59 (wire_Number)

-- NOT PRINTED: function 39 (wire_Put_byte)

/-! ### row_Bytes: function 21 -/
/-- A field's form, a row's bytes. -/
def fieldB (f : List Int) : List Int := Rd.wnum f.length ++ f
def rowB (l : List (List Int)) : List Int := Rd.wnum l.length ++ (l.map fieldB).flatten
def row_Bytes.f (l0 : List (List Int)) : Option (List Int × Int) := some (if mayB l0 then (rowB l0, 0) else ([], 2))
def takeB (l : List (List Int)) (i : Nat) : List Int := Rd.wnum l.length ++ ((l.take i).map fieldB).flatten
theorem takeB_step (l : List (List Int)) (i : Nat) (h : i < l.length) : takeB l (i + 1) = takeB l i ++ (Rd.wnum l[i].length ++ l[i]) := by
  unfold takeB
  rw [List.take_succ_eq_append_getElem h, List.map_append, List.flatten_append]
  simp only [List.map_cons, List.map_nil, List.flatten_cons, List.flatten_nil, List.append_nil, List.append_assoc]
  rfl
theorem takeB_len (l : List (List Int)) (hl : l.length ≤ 3) (hf : ∀ j (hj : j < l.length), l[j].length ≤ 24) : ∀ i, i ≤ l.length → (takeB l i).length ≤ 10 + 34 * i
  | 0, _ => by have := Rd.wnum_len l.length; simp [takeB]; omega
  | i + 1, hi => by
    rw [takeB_step l i (by omega), List.length_append, List.length_append]
    have := takeB_len l hl hf i (by omega)
    have := hf i (by omega)
    have := Rd.wnum_len l[i].length
    omega
theorem takeB_all (l : List (List Int)) : takeB l l.length = rowB l := by unfold takeB rowB; rw [List.take_length]
theorem mayB_iff {l : List (List Int)} (h : mayB l = true) : 1 ≤ l.length ∧ l.length ≤ 3 ∧ ∀ j (hj : j < l.length), l[j].length ≤ 24 := by
  unfold mayB at h
  simp only [Bool.and_eq_true, decide_eq_true_eq, List.all_eq_true] at h
  exact ⟨h.1, h.2.1, fun j hj => h.2.2 _ (List.getElem_mem hj)⟩
theorem field.walk (A : Option Addr) (c : Nat) (b : List Int) (w : World) (hC : Kd.C (Kd.int .u8) w A b.length b) (hc : b.length ≤ c) (hl : b.length ≤ 140737488355318) :
    Calls Try.prog 40 #[.slice A b.length c] w (Rd.FormPost (Rd.wnum b.length ++ b) w) := by
  have HN := Aside0.mk (Rd.bytesForm A c b w hC hc hl)
  clear hC
  go_enter Try.func40, Try.ntmps40
  go_wp2_with (first | (go_at_call 41; refine HN.out.mono ?_; rintro e w1 ⟨v, rfl, ho, hb⟩; have HO := Aside0.mk ho; have HB := Aside0.mk hb; clear ho hb))
  go_ret
  exact ⟨v, rfl, HO.out, HB.out⟩
def PutPost (xs : List Int) (w : World) (e : Ending) (w' : World) : Prop := ∃ v : Value, e = .returned (.tuple #[v, .int .i64 0]) ∧ Rd.Own w' w.heap.size v xs ∧ Below w.heap.size w w'
set_option maxHeartbeats 4000000 in
set_option maxRecDepth 100000 in
theorem put.walk (A : Option Addr) (c : Nat) (l : List (List Int)) (w : World) (hC : Kd.C (Kd.slice 5 (Kd.int .u8)) w A l.length l) (hc : l.length ≤ c) (hm : mayB l = true) :
    Calls Try.prog 39 #[.slice A l.length c, .func (.func 40) #[] #[]] w (PutPost (rowB l) w) := by
  have HC := Aside0.mk hC
  obtain ⟨hm1, hm2, hm3⟩ := mayB_iff hm
  have HN := Aside0.mk (Rd.numForm l.length w (by omega))
  have HM := Aside0.mk hm3
  have hq := Rd.run_eql_func_nil (t := 33) Try.underlying33 40 #[] #[]
  have HTL := Aside0.mk (takeB_len l hm2 hm3)
  clear hC hm hm3
  go_enter Try.func39, Try.ntmps39
  go_wp2_with (first | (go_at_call 59; refine HN.out.mono ?_; rintro e w1 ⟨v, rfl, ho, hb⟩; have HO := Aside0.mk ho; have HB := Aside0.mk hb; clear ho hb))
  go_loopw [6, 17] (fun x i w' => ∃ k : Nat, k ≤ l.length ∧ i = .int .i64 k ∧ Aside0 (Rd.Own w' w.heap.size x (takeB l k)) ∧ Aside0 (Below w.heap.size w w')) (fun _ i _ => l.length - (intOf i).toNat)
  case atStart => exact ⟨0, Nat.zero_le _, rfl, ⟨by unfold takeB; simpa using HO.out⟩, HB⟩
  case round =>
    obtain ⟨k, hk, rfl, ho, hb⟩ := hrel
    clear HO HB
    by_cases hlt : k < l.length
    · obtain ⟨ad, B, c1, rfl, hx, hc1, hD⟩ := Rd.C_row_get HC.out k hlt
      replace hx := pw_cell_below hb.out hx
      have HD := Aside0.mk (Kd.C_below hD hb.out)
      have hlen := HM.out k hlt
      obtain ⟨X, hX⟩ : ∃ X, X = Rd.wnum l[k].length ++ l[k] := ⟨_, rfl⟩
      have hwl := Rd.wnum_len l[k].length
      have hXl : X.length ≤ 34 := by rw [hX, List.length_append]; omega
      have hfw := field.walk B c1 l[k] wr HD.out hc1 (by omega)
      rw [← hX] at hfw
      have HX := Aside0.mk hfw
      have HXE := Aside0.mk hX
      have HTL' := HTL.out k hk
      clear hD hX hwl hfw
      go_wp2_with (first | (go_at_call 40; refine HX.out.mono ?_; rintro e w2 ⟨v2, rfl, ho2, hb2⟩; obtain ⟨A2, c2, e2, hc2, hC2, hlo⟩ := Rd.Own.reads ho2; subst e2; have HC2 := Aside0.mk hC2; have HB2 := Aside0.mk hb2; clear ho2 hb2 hC2 hlo) | ((with_reducible refine gate_builtin (b := .append) (xs := #[.tmp 21, .tmp 24]) rfl ?_); at_builtin; refine Rd.append_list w.heap.size rfl (.tmp 21) (.tmp 24) rfl u6 (takeB l k) X A2 X.length c2 rfl rfl (ho.out.below HB2.out) HC2.out (by have := hb.out.size; have := HB2.out.size; omega) (by omega) ?_; intro v1 w3 ho1 hb1 hg1 hat; have HO1 := Aside0.mk ho1; have HB1 := Aside0.mk hb1; clear ho1 hb1 hg1 hat))
      have hbb : Below w.heap.size w w3 := (hb.out.trans (HB2.out.mono hb.out.size)).trans HB1.out
      have hoo : Rd.Own w3 w.heap.size v1 (takeB l (k + 1)) := by rw [takeB_step l k hlt, ← HXE.out]; exact HO1.out
      first
      | exact ⟨⟨k + 1, by omega, by simp, ⟨hoo⟩, ⟨hbb⟩⟩, by simp [intOf]; omega⟩
      | (refine ⟨?_, by simp [intOf]; omega⟩; (repeat apply Exists.intro); exact ⟨⟨k + 1, by omega, rfl, ⟨hoo⟩, ⟨hbb⟩⟩, rfl⟩)
    · obtain rfl : k = l.length := by omega
      go_wp2
      go_ret2
      exact ⟨u6, rfl, by rw [← takeB_all]; exact ho.out, hb.out⟩
theorem row_Bytes.calls (A0 : Option Addr) (c0 : Nat) (l0 : List (List Int)) (r1 : List Int) (r2 : Int) (w : World) (hr0 : Kd.C (Kd.slice 5 (Kd.int .u8)) w A0 l0.length l0) (hc0 : l0.length ≤ c0) (h : row_Bytes.f l0 = some (r1, r2)) :
    Calls Try.prog 21 #[.slice A0 l0.length c0] w fun e w' => ∃ v0_ : Value, e = .returned (.tuple #[v0_, .int .i64 r2]) ∧ Kd.R (Kd.int .u8) 5 w' w.heap.size (fun _ => True) v0_ r1 ∧ Below w.heap.size w w' := by
  have H := Aside0.mk hr0
  unfold row_Bytes.f at h
  have hmay := row_May.calls A0 c0 l0 _ w hr0 hc0 rfl
  have HMAY := Aside0.mk hmay
  by_cases hm : mayB l0 = true
  · rw [if_pos hm] at h
    simp only [Option.some.injEq, Prod.mk.injEq] at h
    obtain ⟨rfl, rfl⟩ := h
    have HM := Aside0.mk hm
    have HC := Aside0.mk hc0
    clear hr0 hc0 hmay
    go_enter Try.func21, Try.ntmps21
    go_wp2_with (first | (go_at_call 27; refine HMAY.out.mono ?_; rintro e w1 ⟨rfl, nd, rfl⟩) | (go_at_call 39; refine (put.walk _ _ l0 _ (Kd.C_drewN H.out nd) HC.out HM.out).mono ?_; rintro e w2 ⟨v, rfl, ho, hb⟩; have HO := Aside0.mk ho; have HB := Aside0.mk hb; clear ho hb))
    go_ret2
    exact ⟨v, rfl, Kd.R_mono HO.out (fun _ _ => trivial), (pw_below_drewN (Below.refl w.heap.size w) nd).trans HB.out⟩
  · rw [if_neg hm] at h
    simp only [Option.some.injEq, Prod.mk.injEq] at h
    obtain ⟨rfl, rfl⟩ := h
    have hm' : mayB l0 = false := by simpa using hm
    rw [hm'] at hmay
    have HMAY' := Aside0.mk hmay
    clear hr0 hc0 hmay HMAY hm hm'
    go_enter Try.func21, Try.ntmps21
    go_wp2_with (first | (go_at_call 27; refine HMAY'.out.mono ?_; rintro e w1 ⟨rfl, nd, rfl⟩))
    go_ret2
    exact ⟨_, rfl, Kd.R_nil _ _ _ _ _, pw_below_drewN (Below.refl w.heap.size w) nd⟩

end Go.Proofs.Ytmpbcmnnlkienaa.HS
