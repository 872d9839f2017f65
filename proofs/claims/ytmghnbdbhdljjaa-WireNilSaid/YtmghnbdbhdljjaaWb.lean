/- The law WireBack's call. -/
import Derived.Test.YtmghnbdbhdljjaaWp
import Derived.Test.YtmghnbdbhdljjaaHSx1
import Derived.Lib.Zigzag
namespace Go.Proofs.Ytmghnbdbhdljjaa.Wl
open Go.RowKit Go.Proofs.YtmghnbdbhdljjaaW.PrintWords Go.Proofs.YtmghnbdbhdljjaaW.PrintLast Go.Proofs.YtmghnbdbhdljjaaW.PrintMore Go.Proofs.Ytmghnbdbhdljjaa.HS
set_option linter.unusedVariables false
set_option linter.unusedSimpArgs false
def RightPost (w : World) (e : Ending) (w' : World) : Prop := e = .returned (.bool true) ∧ Below w.heap.size w w'
theorem num_call (x : Int) (w : World) : Calls Try.prog 24 #[.int .i64 x] w fun e w' => e = .returned (.int .i64 x) ∧ Drawn0 w w' := garnerlaw01_num.calls x x w rfl
theorem known_call (w : World) : Calls Try.prog 18 #[] w fun e w' => e = .returned (.bool true) ∧ Below w.heap.size w w' := garnerlaw01_known.calls true w rfl
theorem below_of_grown {B : Nat} {w W : World} {row : Option Nat} (h : w.grownBy W row) (hB : B ≤ w.heap.size) (h2 : ∀ k, row = some k → B ≤ k) : Below B w W :=
  ⟨h.os, h.tape, h.output, h.size, fun k hk => h.block k (by omega) (fun e => by have := h2 k e.symm; omega)⟩
theorem number_form (N : Nat) (h : N < 18446744073709551616) : wire_Number.f (N : Int) = some (Rd.wnum N) := by
  unfold wire_Number.f
  rw [if_pos ⟨by omega, by omega⟩, Int.toNat_natCast]
theorem fold_zig {z : Int} (h1 : -9223372036854775808 ≤ z) (h2 : z ≤ 9223372036854775807) : Go.bits .xor .u64 (IntKind.u64.wrap ((IntKind.u64.wrap z) * 2)) (IntKind.u64.wrap (z / 9223372036854775808)) = ((Rd.fold z : Nat) : Int) := by
  by_cases h : z < 0
  · have e2 : IntKind.u64.wrap (z / 9223372036854775808) = 18446744073709551615 := by
      rw [show z / 9223372036854775808 = -1 by omega]; rfl
    have := Go.Lib.zigzag_neg h1 h
    have e3 : (Go.Lib.zigzag z : Nat) = Rd.fold z := by unfold Go.Lib.zigzag Rd.fold; rw [if_neg (by omega), if_pos h]; omega
    rw [e2, ← e3, ← this]
    show IntKind.u64.wrap ((BitVec.ofInt 64 _ ^^^ BitVec.ofInt 64 _).toNat : Int) = IntKind.u64.wrap ((BitVec.ofInt 64 _ ^^^ BitVec.ofInt 64 _).toNat : Int)
    rw [BitVec.xor_comm]
    rfl
  · obtain ⟨n, rfl⟩ := Int.eq_ofNat_of_zero_le (show 0 ≤ z by omega)
    have e1 : IntKind.u64.wrap ((IntKind.u64.wrap (n : Int)) * 2) = ((2 * n : Nat) : Int) := by
      rw [IntKind.wrap_u64, IntKind.wrap_u64]; omega
    have e2 : IntKind.u64.wrap ((n : Int) / 9223372036854775808) = 0 := by
      rw [show (n : Int) / 9223372036854775808 = 0 by omega]; rfl
    have e3 : Rd.fold (n : Int) = 2 * n := by unfold Rd.fold; rw [if_neg (by omega)]; omega
    rw [e1, e2, e3]
    show IntKind.u64.wrap ((BitVec.ofInt 64 _ ^^^ BitVec.ofInt 64 0).toNat : Int) = _
    rw [show BitVec.ofInt 64 0 = 0#64 by decide, BitVec.xor_zero, BitVec.ofInt_natCast, BitVec.toNat_ofNat, Nat.mod_eq_of_lt (by omega), IntKind.wrap_u64]
    omega
theorem signed_form {z : Int} (h1 : -9223372036854775808 ≤ z) (h2 : z ≤ 9223372036854775807) : wire_Signed.f z = some (Rd.wnum (Rd.fold z)) := by
  unfold wire_Signed.f
  rw [fold_zig h1 h2, number_form _ (Rd.fold_lt h1 (by omega))]
  rfl
theorem bytes_form {l : List Int} (h : l.length ≤ 140737488355317) : wire_Bytes.f l = some (Rd.wbytes l) := by
  unfold wire_Bytes.f
  have hw : IntKind.u64.wrap (l.length : Int) = (l.length : Int) := by rw [IntKind.wrap_u64]; omega
  have hn := Rd.wnum_len l.length
  rw [hw, number_form _ (by omega)]
  simp only [Option.bind_some]
  rw [if_pos (by omega)]
  rfl
theorem flag_form (f : Bool) : wire_Flag.f f = some [Rd.cflag f] := by cases f <;> rfl
theorem join_go (l : List (List Int)) : ∀ (k i : Nat) (acc : List Int), l.length < k + i → i ≤ l.length → acc.length + (l.drop i).flatten.length < 140737488355328 → l.length < 9223372036854775807 → wire_Join.l0 k acc l (l.length : Int) (i : Int) = some (acc ++ (l.drop i).flatten)
  | 0, i, acc, hk, hi, hl, hm => by omega
  | k + 1, i, acc, hk, hi, hl, hm => by
    rw [wire_Join.l0]
    by_cases h : i < l.length
    · have hr : rd_L1 l (i : Int) = l[i] := by simp [rd_L1, h]
      have hd : l.drop i = l[i] :: l.drop (i + 1) := List.drop_eq_getElem_cons h
      rw [hd, List.flatten_cons, List.length_append] at hl
      rw [if_pos (by omega), if_pos (by omega), if_pos (by omega), hr, if_pos (by omega), show wrap64 ((i : Int) + 1) = ((i + 1 : Nat) : Int) by unfold wrap64; omega, join_go l k (i + 1) _ (by omega) (by omega) (by rw [List.length_append]; omega) hm, hd, List.flatten_cons, List.append_assoc]
    · rw [if_neg (by omega), List.drop_eq_nil_of_le (by omega)]
      simp
theorem join_form (l : List (List Int)) (h : l.flatten.length < 140737488355328) (hm : l.length < 9223372036854775807) : wire_Join.f (l.length + 1) l = some l.flatten := by
  have := join_go l (l.length + 1) 0 [] (by omega) (by omega) (by simpa using h) hm
  simpa [wire_Join.f] using this
/-- What WireBack is given. -/
structure In (w : World) (A B : Option Addr) (c d : Nat) (l b : List Int) : Prop where
  hA : Kd.C (Kd.int .u8) w A l.length l
  hc : l.length ≤ c
  hB : Kd.C (Kd.int .u8) w B b.length b
  hd : b.length ≤ d
  yl : Rd.Byt l
  yb : Rd.Byt b
theorem In.below {w W : World} {A B : Option Addr} {c d : Nat} {l b : List Int} (h : In w A B c d l b) (hb : Below w.heap.size w W) : In W A B c d l b := ⟨Kd.C_below h.hA hb, h.hc, Kd.C_below h.hB hb, h.hd, h.yl, h.yb⟩
theorem num_c (N : Nat) (h : N < 18446744073709551616) (w : World) : Calls Try.prog 9 #[.int .u64 (N : Int)] w fun e w' => ∃ v : Value, e = .returned v ∧ Kd.R (Kd.int .u8) 5 w' w.heap.size (fun _ => True) v (Rd.wnum N) ∧ Below w.heap.size w w' := wire_Number.calls _ _ w (number_form N h)
theorem open_rows {A : Option Addr} {c : Nat} {s : List Int} {w : World} (h : Kd.C (Kd.int .u8) w A s.length s) (hc : s.length ≤ c) (hB : Rd.Byt s) (hl : s.length < 140737488355328) : Calls Try.prog 19 #[.slice A s.length c] w (Rd.OpenPost s w) := Rd.open_ A c s w h hc hB hl
/-- The forms put together, and what reading them answers. -/
theorem whole (N : Nat) (S : Int) (F : Bool) (l : List Int) (hN : N < 18446744073709551616) (h1 : -9223372036854775808 ≤ S) (h2 : S ≤ 9223372036854775807) (yl : Rd.Byt l) (hl : l.length ≤ 140737488351232) :
    ∃ (s : List Int) (n1 n2 n3 : Nat), Rd.wnum N ++ (Rd.wnum (Rd.fold S) ++ (Rd.wbytes l ++ [Rd.cflag F])) = s ∧ s.length < 140737488355328 ∧ Rd.Byt s ∧ Rd.rnum s 10 0 0 0 = some (N, n1) ∧ Rd.rnum s 10 n1 0 0 = some (Rd.fold S, n2) ∧ Rd.rbs s n2 l.length = (0, l, n3) ∧ Rd.rflag s n3 = some F ∧ s.length = n3 + 1 := by
  have hf := Rd.fold_lt h1 (by omega : S < 9223372036854775808)
  have q1 := Rd.wnum_len N
  have q2 := Rd.wnum_len (Rd.fold S)
  have q3 : (Rd.wbytes l).length ≤ 10 + l.length := by unfold Rd.wbytes; rw [List.length_append]; have := Rd.wnum_len l.length; omega
  refine ⟨_, (Rd.wnum N).length, (Rd.wnum N).length + (Rd.wnum (Rd.fold S)).length, (Rd.wnum N).length + (Rd.wnum (Rd.fold S)).length + (Rd.wbytes l).length, rfl, ?_, ?_, ?_, ?_, ?_, ?_, ?_⟩
  · simp only [List.length_append, List.length_cons, List.length_nil]; omega
  · have y1 := Rd.wnum_byt hN
    have y2 := Rd.wnum_byt hf
    have y3 : Rd.Byt (Rd.wnum l.length) := Rd.wnum_byt (by omega)
    unfold Rd.wbytes
    intro x hx
    simp only [List.mem_append, List.mem_cons, List.mem_nil_iff, or_false] at hx
    rcases hx with hx | hx | (hx | hx) | rfl
    · exact y1 x hx
    · exact y2 x hx
    · exact y3 x hx
    · exact yl x hx
    · cases F <;> decide
  · have := Rd.rnum_wnum [] (Rd.wnum (Rd.fold S) ++ (Rd.wbytes l ++ [Rd.cflag F])) N hN
    simpa using this
  · have := Rd.rnum_wnum (Rd.wnum N) (Rd.wbytes l ++ [Rd.cflag F]) (Rd.fold S) hf
    simpa using this
  · have := Rd.rbs_form (Rd.wnum N ++ Rd.wnum (Rd.fold S)) l [Rd.cflag F] l.length (Nat.le_refl _) (by omega)
    simpa using this
  · have := Rd.rflag_form (Rd.wnum N ++ Rd.wnum (Rd.fold S) ++ Rd.wbytes l) [] F
    simpa [Nat.add_assoc] using this
  · simp only [List.length_append, List.length_cons, List.length_nil]; omega
/-- What reading bytes answers, and how it is written. -/
theorem half (b : List Int) (yb : Rd.Byt b) (hl : b.length ≤ 140737488351232) : ∃ (e : Int) (y : List Int) (m : Nat), Rd.rbs b 0 b.length = (e, y, m) ∧ (((e = 3 ∨ e = 4) ∧ m = 0) ∨ (e = 0 ∧ ∃ z : List Int, Rd.wbytes y = z ∧ z = b.take z.length ∧ z.length = m ∧ 0 < z.length ∧ z.length ≤ b.length ∧ y.length ≤ 140737488355317 ∧ Rd.Byt (z.take (z.length - 1)) ∧ Rd.rbs (z.take (z.length - 1)) 0 b.length = (4, [], 0))) := by
  rcases Rd.rbs_err b 0 b.length with h | ⟨h, h2⟩
  · cases hr : Rd.rbs b 0 b.length with
    | mk e q =>
    obtain ⟨y, m⟩ := q
    rw [hr] at h
    dsimp only at h
    subst h
    obtain ⟨h1, h2, h3, h4⟩ := Rd.rbs_is yb hr
    have h0 : 0 < (Rd.wbytes y).length := by
      unfold Rd.wbytes Rd.wnum
      rw [List.length_append]
      have : 0 < (Rd.wnumF 9 y.length).length := by rw [Rd.wnumF]; split <;> simp
      omega
    have h5 : Rd.wbytes y = b.take (Rd.wbytes y).length := by rw [h2, h1]
    refine ⟨0, y, m, rfl, Or.inr ⟨rfl, _, rfl, h5, h2, h0, by omega, by omega, fun x hx => ?_, Rd.rbs_short y b.length h4 (by omega)⟩⟩
    have h6 := List.mem_of_mem_take hx
    rw [h5] at h6
    exact yb x (List.mem_of_mem_take h6)
  · refine ⟨_, [], 0, h2, Or.inl ⟨h, rfl⟩⟩
theorem cell_low {B : Nat} {w W : World} (hb : Below B w W) {k i : Nat} {v : Value} (h : k < B) (hc : w.cell? ⟨k, i, none⟩ = some v) : W.cell? ⟨k, i, none⟩ = some v := (hb.cell (p := ⟨k, i, none⟩) h).trans hc
theorem signed_some {g y : Nat} {b : List Int} {n x m : Nat} (w : World) (h : Rd.Is w g y b n) (hr : Rd.rnum b 10 n 0 0 = some (x, m)) {z : Int} (hz : Rd.sgn x = z) :
    Calls Try.prog 21 #[.pointer (some ⟨g, 0, none⟩)] w fun e w' => e = .returned (.tuple #[.int .i64 z, .int .i64 0]) ∧ Rd.Is w' g y b m ∧ w.grownBy w' (some g) := by
  have := Rd.signed g y b n w h
  rw [hr] at this
  rw [← hz]
  exact this
theorem flag_some {g y : Nat} {b : List Int} {n : Nat} {f : Bool} (w : World) (h : Rd.Is w g y b n) (hr : Rd.rflag b n = some f) :
    Calls Try.prog 23 #[.pointer (some ⟨g, 0, none⟩)] w fun e w' => e = .returned (.tuple #[.bool f, .int .i64 0]) ∧ Rd.Is w' g y b (n + 1) ∧ w.grownBy w' (some g) := by
  have := Rd.flag g y b n w h
  rw [hr] at this
  exact this
theorem bytes_some {g y : Nat} {b : List Int} {n most m : Nat} {e0 : Int} {xs : List Int} (w : World) (h : Rd.Is w g y b n) (hm : most ≤ 9223372036854775807) (hb : b.length ≤ 140737488355328) (hr : Rd.rbs b n most = (e0, xs, m)) :
    Calls Try.prog 22 #[.pointer (some ⟨g, 0, none⟩), .int .i64 (most : Int)] w fun e w' => ∃ (A : Option Addr) (c : Nat), e = .returned (.tuple #[.slice A xs.length c, .int .i64 e0]) ∧ xs.length ≤ c ∧ Kd.C (Kd.int .u8) w' A xs.length xs ∧ (∀ ad, A = some ad → w.heap.size ≤ ad.block) ∧ Rd.Is w' g y b m ∧ w.grownBy w' (some g) := by
  refine (Rd.bytes g y b n most w h hm hb).mono fun e w' hp => ?_
  rw [hr] at hp
  obtain ⟨v, rfl, ho, h1, h2⟩ := hp
  obtain ⟨A, c, rfl, hc, hC, hlo⟩ := ho.reads
  exact ⟨A, c, rfl, hc, hC, fun ad e => (hlo ad e).1, h1, h2⟩
set_option maxHeartbeats 16000000 in
set_option maxRecDepth 100000 in
theorem back_walk (A B : Option Addr) (c d : Nat) (N : Nat) (S : Int) (F : Bool) (l b : List Int) (w : World) (H : In w A B c d l b) (hN : N < 18446744073709551616) (hS1 : -9223372036854775808 ≤ S) (hS2 : S ≤ 9223372036854775807) (hl : l.length ≤ 140737488351232) (hbl : b.length ≤ 140737488351232) :
    Calls Try.prog 4 #[.agg #[.int .u64 (N : Int), .int .i64 S, .bool F, .slice A l.length c], .slice B b.length d] w (RightPost w) := by
  have hw0 : Below w.heap.size w (w.alloc (.cells #[.int .u64 (N : Int), .int .i64 S, .bool F, .slice A l.length c] 25)).drew := below_drew1 (below_alloc (Below.refl _ _) _)
  have hsz : (w.alloc (.cells #[.int .u64 (N : Int), .int .i64 S, .bool F, .slice A l.length c] 25)).drew.heap.size = w.heap.size + 1 := by simp [World.drew]
  have hblk : (w.alloc (.cells #[.int .u64 (N : Int), .int .i64 S, .bool F, .slice A l.length c] 25)).drew.heap[w.heap.size]? = some (.cells #[.int .u64 (N : Int), .int .i64 S, .bool F, .slice A l.length c] 25) := blk_new w _
  have y0 := (blk_cell hblk 0).trans rfl
  have y1 := (blk_cell hblk 1).trans rfl
  have y2 := (blk_cell hblk 2).trans rfl
  have y3 := (blk_cell hblk 3).trans rfl
  have HI := Aside0.mk (H.below hw0)
  have HW0 := Aside0.mk hw0
  have HSZ := Aside0.mk hsz
  obtain ⟨s, n1, n2, n3, e0, hs1, hs2, e1, e2, e3, e4, e5⟩ := whole N S F l hN hS1 hS2 H.yl hl
  have CN := Aside0.mk (fun W : World => num_c N hN W)
  have CS := Aside0.mk (fun W : World => wire_Signed.calls S _ W (signed_form hS1 hS2))
  have CB := Aside0.mk (fun (W : World) (h : Kd.C (Kd.int .u8) W A l.length l) => wire_Bytes.calls A c l _ W h H.hc (bytes_form (by omega)))
  have CF := Aside0.mk (fun W : World => wire_Flag.calls F _ W (flag_form F))
  obtain ⟨x1, hx1⟩ : ∃ x, x = Rd.wnum N := ⟨_, rfl⟩
  obtain ⟨x2, hx2⟩ : ∃ x, x = Rd.wnum (Rd.fold S) := ⟨_, rfl⟩
  obtain ⟨x3, hx3⟩ : ∃ x, x = Rd.wbytes l := ⟨_, rfl⟩
  obtain ⟨x4, hx4⟩ : ∃ x, x = [Rd.cflag F] := ⟨_, rfl⟩
  rw [← hx1] at CN e0
  rw [← hx2] at CS e0
  rw [← hx3] at CB e0
  rw [← hx4] at CF e0
  have hj := join_form [x1, x2, x3, x4] (by simpa using (show (x1 ++ (x2 ++ (x3 ++ x4))).length < 140737488355328 by rw [e0]; exact hs1)) (by simp)
  rw [show [x1, x2, x3, x4].flatten = s by simpa using e0] at hj
  obtain ⟨L, hL⟩ : ∃ L : List (List Int), L = [x1, x2, x3, x4] := ⟨_, rfl⟩
  rw [← hL] at hj
  have NL := Aside0.mk hL
  have CJ := Aside0.mk (fun (W : World) (A : Option Addr) (c : Nat) (h : Kd.C (Kd.slice 5 (Kd.int .u8)) W A L.length L) (h2 : L.length ≤ c) => wire_Join.calls _ A c L s W h h2 hj)
  have E1 := Aside0.mk e1
  have E2 := Aside0.mk e2
  have E3 := Aside0.mk e3
  have E4 := Aside0.mk e4
  have E5 := Aside0.mk e5
  have HS1 := Aside0.mk hs1
  have HS2 := Aside0.mk hs2
  have HL0 := Aside0.mk hl
  have HBL := Aside0.mk hbl
  have hsg := @Rd.sgn_fold S
  have SG := Aside0.mk hsg
  clear H hw0 hsz hblk e0 e1 e2 e3 e4 e5 hs1 hs2 hx1 hx2 hx3 hx4 hL hj hN hS1 hS2 hl hbl hsg
  go_enter Try.func4, Try.ntmps4
  go_upto_region 1 with fail
  refine start_ (n := 15) (S := fun w' => w'.cell? ⟨w.heap.size, 0, none⟩ = some (.int .u64 (N : Int)) ∧ w'.cell? ⟨w.heap.size, 1, none⟩ = some (.int .i64 S) ∧ w'.cell? ⟨w.heap.size, 2, none⟩ = some (.bool F) ∧ w'.cell? ⟨w.heap.size, 3, none⟩ = some (.slice A l.length c)) (ds := []) #[false, false, false, false, false, false, false, false, false, false, false, false, false, false, false] (by kernel_rfl) rfl rfl ⟨y0, y1, y2, y3⟩ (fun hHeld => ?_)
  generalize (w.alloc (.cells #[.int .u64 (N : Int), .int .i64 S, .bool F, .slice A l.length c] 25)).drew = w1 at hHeld HI HW0 HSZ y0 y1 y2 y3 ⊢
  refine pure_ (i := 0) (N := some 17) (v := ?_) (a' := ?_) #[true, false, false, false, false, false, false, false, false, false, false, false, false, false, false] rfl rfl (by kernel_rfl) (fun _ _ _ h => h) (Or.inl ⟨by rfl, ?_⟩) ?_ ?_
  rotate_left
  · intro w'
    go_simp
    with_reducible rfl
  rotate_left
  · simp only [Act.put, List.setIfInBounds_toArray, List.set_cons_zero, List.set_cons_succ, i64_w, i32_w]
    rfl
  refine pure_ (i := 3) (N := some 20) (v := ?_) (a' := ?_) #[true, false, false, true, false, false, false, false, false, false, false, false, false, false, false] rfl rfl (by kernel_rfl) (fun _ _ _ h => h) (Or.inl ⟨by rfl, ?_⟩) ?_ ?_
  rotate_left
  · intro w'
    go_simp
    with_reducible rfl
  rotate_left
  · simp only [Act.put, List.setIfInBounds_toArray, List.set_cons_zero, List.set_cons_succ, i64_w, i32_w]
    rfl
  refine pure_ (i := 6) (N := some 23) (v := ?_) (a' := ?_) #[true, false, false, true, false, false, true, false, false, false, false, false, false, false, false] rfl rfl (by kernel_rfl) (fun _ _ _ h => h) (Or.inl ⟨by rfl, ?_⟩) ?_ ?_
  rotate_left
  · intro w'
    go_simp
    with_reducible rfl
  rotate_left
  · simp only [Act.put, List.setIfInBounds_toArray, List.set_cons_zero, List.set_cons_succ, i64_w, i32_w]
    rfl
  refine pure_ (i := 9) (N := some 26) (v := ?_) (a' := ?_) #[true, false, false, true, false, false, true, false, false, true, false, false, false, false, false] rfl rfl (by kernel_rfl) (fun _ _ _ h => h) (Or.inl ⟨by rfl, ?_⟩) ?_ ?_
  rotate_left
  · intro w'
    go_simp
    with_reducible rfl
  rotate_left
  · simp only [Act.put, List.setIfInBounds_toArray, List.set_cons_zero, List.set_cons_succ, i64_w, i32_w]
    rfl
  refine take_ (i := 1) (N := some 18) (v := ?_) (a' := ?_) #[true, true, false, true, false, false, true, false, false, true, false, false, false, false, false] rfl rfl (by kernel_rfl) (fun _ _ _ h => h) (Or.inl ⟨by rfl, ?_⟩) hHeld ?_ ?_
  rotate_left
  · rintro w' ⟨s0, s1, s2, s3⟩
    go_simp
    with_reducible rfl
  rotate_left
  · simp only [Act.put, List.setIfInBounds_toArray, List.set_cons_zero, List.set_cons_succ, i64_w, i32_w]
    rfl
  refine take_ (i := 4) (N := some 21) (v := ?_) (a' := ?_) #[true, true, false, true, true, false, true, false, false, true, false, false, false, false, false] rfl rfl (by kernel_rfl) (fun _ _ _ h => h) (Or.inl ⟨by rfl, ?_⟩) hHeld ?_ ?_
  rotate_left
  · rintro w' ⟨s0, s1, s2, s3⟩
    go_simp
    with_reducible rfl
  rotate_left
  · simp only [Act.put, List.setIfInBounds_toArray, List.set_cons_zero, List.set_cons_succ, i64_w, i32_w]
    rfl
  refine take_ (i := 7) (N := some 24) (v := ?_) (a' := ?_) #[true, true, false, true, true, false, true, true, false, true, false, false, false, false, false] rfl rfl (by kernel_rfl) (fun _ _ _ h => h) (Or.inl ⟨by rfl, ?_⟩) hHeld ?_ ?_
  rotate_left
  · rintro w' ⟨s0, s1, s2, s3⟩
    go_simp
    with_reducible rfl
  rotate_left
  · simp only [Act.put, List.setIfInBounds_toArray, List.set_cons_zero, List.set_cons_succ, i64_w, i32_w]
    rfl
  refine take_ (i := 10) (N := some 27) (v := ?_) (a' := ?_) #[true, true, false, true, true, false, true, true, false, true, true, false, false, false, false] rfl rfl (by kernel_rfl) (fun _ _ _ h => h) (Or.inl ⟨by rfl, ?_⟩) hHeld ?_ ?_
  rotate_left
  · rintro w' ⟨s0, s1, s2, s3⟩
    go_simp
    with_reducible rfl
  rotate_left
  · simp only [Act.put, List.setIfInBounds_toArray, List.set_cons_zero, List.set_cons_succ, i64_w, i32_w]
    rfl
  refine one_ (i := 2) (N := some 19) #[true, true, true, true, true, false, true, true, false, true, true, false, false, false, false] rfl rfl (by kernel_rfl) (by decide) (fun K hK => ?_)
  refine goes_ Try.func9 (by kernel_rfl) rfl #[.int .u64 (N : Int)] (by rfl) rfl rfl (by (try simp only [List.map_toArray, List.map_cons, List.map_nil]); first | done | rfl) ?_
  with_reducible refine (CN.out w1).mono ?_
  rintro e w2 ⟨v2, rfl, hx, hb⟩
  have HX2 := Aside0.mk hx
  have HB2 := Aside0.mk hb
  have z0 := pw_cell_below hb y0
  have z1 := pw_cell_below hb y1
  have z2 := pw_cell_below hb y2
  have z3 := pw_cell_below hb y3
  clear hx hb
  refine ⟨_, rfl, ?_⟩
  refine hK.out _ _ ⟨z0, z1, z2, z3⟩ (fun hHeld => ?_)
  clear hK K
  refine norm_ (a' := ?_) ?_ ?_
  rotate_left
  · show Act.put _ (some 19) _ = _
    simp only [Act.put, List.setIfInBounds_toArray, List.set_cons_zero, List.set_cons_succ, i64_w, i32_w]
    rfl
  refine one_ (i := 5) (N := some 22) #[true, true, true, true, true, true, true, true, false, true, true, false, false, false, false] rfl rfl (by kernel_rfl) (by decide) (fun K hK => ?_)
  refine goes_ Try.func13 (by kernel_rfl) rfl #[.int .i64 S] (by rfl) rfl rfl (by (try simp only [List.map_toArray, List.map_cons, List.map_nil]); first | done | rfl) ?_
  with_reducible refine (CS.out w2).mono ?_
  rintro e w3 ⟨v3, rfl, hx, hb⟩
  have HX3 := Aside0.mk hx
  have HB3 := Aside0.mk (below_step HB2.out hb)
  have HX23 := Aside0.mk (Kd.R_below HX2.out hb)
  replace z0 := pw_cell_below hb z0
  replace z1 := pw_cell_below hb z1
  replace z2 := pw_cell_below hb z2
  replace z3 := pw_cell_below hb z3
  clear hx hb
  refine ⟨_, rfl, ?_⟩
  refine hK.out _ _ ⟨z0, z1, z2, z3⟩ (fun hHeld => ?_)
  clear hK K
  refine norm_ (a' := ?_) ?_ ?_
  rotate_left
  · show Act.put _ (some 22) _ = _
    simp only [Act.put, List.setIfInBounds_toArray, List.set_cons_zero, List.set_cons_succ, i64_w, i32_w]
    rfl
  refine one_ (i := 8) (N := some 25) #[true, true, true, true, true, true, true, true, true, true, true, false, false, false, false] rfl rfl (by kernel_rfl) (by decide) (fun K hK => ?_)
  refine goes_ Try.func8 (by kernel_rfl) rfl #[.slice A l.length c] (by rfl) rfl rfl (by (try simp only [List.map_toArray, List.map_cons, List.map_nil]); first | done | rfl) ?_
  with_reducible refine (CB.out w3 (HI.out.below HB3.out).hA).mono ?_
  rintro e w4 ⟨v4, rfl, hx, hb⟩
  have HX4 := Aside0.mk hx
  have HB4 := Aside0.mk (below_step HB3.out hb)
  have HX24 := Aside0.mk (Kd.R_below HX23.out hb)
  have HX34 := Aside0.mk (Kd.R_below HX3.out hb)
  replace z0 := pw_cell_below hb z0
  replace z1 := pw_cell_below hb z1
  replace z2 := pw_cell_below hb z2
  replace z3 := pw_cell_below hb z3
  clear hx hb
  refine ⟨_, rfl, ?_⟩
  refine hK.out _ _ ⟨z0, z1, z2, z3⟩ (fun hHeld => ?_)
  clear hK K
  refine norm_ (a' := ?_) ?_ ?_
  rotate_left
  · show Act.put _ (some 25) _ = _
    simp only [Act.put, List.setIfInBounds_toArray, List.set_cons_zero, List.set_cons_succ, i64_w, i32_w]
    rfl
  refine one_ (i := 11) (N := some 28) #[true, true, true, true, true, true, true, true, true, true, true, true, false, false, false] rfl rfl (by kernel_rfl) (by decide) (fun K hK => ?_)
  refine goes_ Try.func15 (by kernel_rfl) rfl #[.bool F] (by rfl) rfl rfl (by (try simp only [List.map_toArray, List.map_cons, List.map_nil]); first | done | rfl) ?_
  with_reducible refine (CF.out w4).mono ?_
  rintro e w5 ⟨v5, rfl, hx, hb⟩
  have HB5 := Aside0.mk (below_step HB4.out hb)
  have hx2 := Kd.R_below HX24.out hb
  have hx3 := Kd.R_below HX34.out hb
  have hx4 := Kd.R_below HX4.out hb
  obtain ⟨A2, c2, rfl, hc2, -⟩ := Kd.R_reads hx2
  obtain ⟨A3, c3, rfl, hc3, -⟩ := Kd.R_reads hx3
  obtain ⟨A4, c4, rfl, hc4, -⟩ := Kd.R_reads hx4
  obtain ⟨A5, c5, rfl, hc5, -⟩ := Kd.R_reads hx
  have HX2 := Aside0.mk hx2
  have HX3 := Aside0.mk hx3
  have HX4 := Aside0.mk hx4
  have HX5 := Aside0.mk hx
  replace z0 := pw_cell_below hb z0
  replace z1 := pw_cell_below hb z1
  replace z2 := pw_cell_below hb z2
  replace z3 := pw_cell_below hb z3
  clear hx hb hx2 hx3 hx4
  refine ⟨_, rfl, ?_⟩
  refine hK.out _ _ ⟨z0, z1, z2, z3⟩ (fun hHeld => ?_)
  clear hK K
  refine norm_ (a' := ?_) ?_ ?_
  rotate_left
  · show Act.put _ (some 28) _ = _
    simp only [Act.put, List.setIfInBounds_toArray, List.set_cons_zero, List.set_cons_succ, i64_w, i32_w]
    rfl
  refine one_ (i := 12) (N := some 29) #[true, true, true, true, true, true, true, true, true, true, true, true, true, false, false] rfl rfl (by kernel_rfl) (by decide) (fun K hK => ?_)
  refine Kd.N_lit_step (Kd.slice 5 (Kd.int .u8)) _ 23 (by rfl) (N' := 29) rfl (xs := ([x1, x2, x3, x4] : List (List Int))) (inner := [.slice A2 x1.length c2, .slice A3 x2.length c3, .slice A4 x3.length c4, .slice A5 x4.length c5]) (ok := fun _ => True) (okp := fun _ => True) ?hr ?hp (fun _ hk => hk) trivial (Below.refl _ _) (Nat.le_refl _) (by simp) ?_
  case hr => first | (go_simp; done) | (go_simp; rfl)
  case hp => exact (Reps.one (show Kd.FK (Kd.slice 5 (Kd.int .u8)) _ _ x1 [.slice A2 x1.length c2] from Kd.FK_slice_mk hc2 (Kd.R_F HX2.out)) (Reps.one (show Kd.FK (Kd.slice 5 (Kd.int .u8)) _ _ x2 [.slice A3 x2.length c3] from Kd.FK_slice_mk hc3 (Kd.R_F HX3.out)) (Reps.one (show Kd.FK (Kd.slice 5 (Kd.int .u8)) _ _ x3 [.slice A4 x3.length c4] from Kd.FK_slice_mk hc4 (Kd.R_F HX4.out)) (Reps.one (show Kd.FK (Kd.slice 5 (Kd.int .u8)) _ _ x4 [.slice A5 x4.length c5] from Kd.FK_slice_mk hc5 (Kd.R_F HX5.out)) (Reps.none _ _)))))
  intro v_ w6 ho hb hg_ hnew_
  clear hg_ hnew_
  rw [← NL.out] at ho
  obtain ⟨A6, c6, rfl, hc6, hC6⟩ := Kd.N_reads ho
  have HC6 := Aside0.mk hC6
  have HB6 := Aside0.mk (below_step HB5.out hb)
  replace z0 := pw_cell_below hb z0
  replace z1 := pw_cell_below hb z1
  replace z2 := pw_cell_below hb z2
  replace z3 := pw_cell_below hb z3
  clear ho hb hC6
  refine hK.out _ _ ⟨z0, z1, z2, z3⟩ (fun hHeld => ?_)
  clear hK K
  refine norm_ (a' := ?_) ?_ ?_
  rotate_left
  · show Act.put _ (some 29) _ = _
    simp only [Act.put, List.setIfInBounds_toArray, List.set_cons_zero, List.set_cons_succ, i64_w, i32_w]
    rfl
  refine one_ (i := 13) (N := some 30) #[true, true, true, true, true, true, true, true, true, true, true, true, true, true, false] rfl rfl (by kernel_rfl) (by decide) (fun K hK => ?_)
  refine goes_ Try.func10 (by kernel_rfl) rfl #[.slice A6 L.length c6] (by rfl) rfl rfl (by (try simp only [List.map_toArray, List.map_cons, List.map_nil]); first | done | rfl) ?_
  with_reducible refine (CJ.out w6 A6 c6 HC6.out hc6).mono ?_
  rintro e w7 ⟨v7, rfl, hx, hb⟩
  obtain ⟨A7, c7, rfl, hc7, hC7⟩ := Kd.R_reads hx
  have HC7 := Aside0.mk hC7
  have HB7 := Aside0.mk (below_step HB6.out hb)
  replace z0 := pw_cell_below hb z0
  replace z1 := pw_cell_below hb z1
  replace z2 := pw_cell_below hb z2
  replace z3 := pw_cell_below hb z3
  clear hx hb hC7
  refine ⟨_, rfl, ?_⟩
  refine hK.out _ _ ⟨z0, z1, z2, z3⟩ (fun hHeld => ?_)
  clear hK K
  refine norm_ (a' := ?_) ?_ ?_
  rotate_left
  · show Act.put _ (some 30) _ = _
    simp only [Act.put, List.setIfInBounds_toArray, List.set_cons_zero, List.set_cons_succ, i64_w, i32_w]
    rfl
  refine pure_ (i := 14) (N := some 5) (v := ?_) (a' := ?_) #[true, true, true, true, true, true, true, true, true, true, true, true, true, true, true] rfl rfl (by kernel_rfl) (fun _ _ _ h => h) (Or.inl ⟨by rfl, ?_⟩) ?_ ?_
  rotate_left
  · intro w'
    go_simp
    with_reducible rfl
  rotate_left
  · simp only [Act.put, List.setIfInBounds_toArray, List.set_cons_zero, List.set_cons_succ, i64_w, i32_w]
    rfl
  refine done_ (by kernel_rfl) ?_
  clear HX2 HX3 HX4 HX5 HX23 HX24 HX34 HB2 HB3 HB4 HB5 HB6 HC6 hc2 hc3 hc4 hc5 hc6 hHeld CN CS CB CF CJ NL
  have GB : Aside0 (w.heap.size < w1.heap.size) := ⟨by have := HSZ.out; omega⟩
  have HB := HB7
  clear HB7
  have CE : Aside0 (∀ (g y : Nat) (W : World), Rd.Is W g y s (n3 + 1) → Calls Try.prog 25 #[.pointer (some ⟨g, 0, none⟩)] W fun e w' => e = .returned (.int .i64 0) ∧ Drawn0 W w') := ⟨fun g y W h => (Rd.end_ g y s (n3 + 1) W h).mono fun e w' ⟨h1, h2⟩ => ⟨by rw [h1, if_neg (by have := E5.out; omega)], ⟨h2⟩⟩⟩
  go_upto_region 11 with (first | (go_at_call 19; (with_reducible refine (open_rows HC7.out hc7 HS2.out HS1.out).mono ?_); rintro e w8 ⟨g1, q1, rfl, hr, hq, hg, hb⟩; have HR := Aside0.mk hr; have G1 := Aside0.mk (Nat.le_trans HB.out.size hg); replace HB := Aside0.mk (below_step HB.out hb); replace z0 := pw_cell_below hb z0; replace z1 := pw_cell_below hb z1; replace z2 := pw_cell_below hb z2; replace z3 := pw_cell_below hb z3; clear hr hq hg hb) | (go_at_call 20; (with_reducible refine (Rd.number_some w8 HR.out E1.out).mono ?_); rintro e w9 ⟨rfl, hr, hgr⟩; have hb := below_of_grown hgr HB.out.size (fun k e => by cases e; exact G1.out); replace HR := Aside0.mk hr; replace HB := Aside0.mk (HB.out.trans hb); replace z0 := cell_low hb GB.out z0; replace z1 := cell_low hb GB.out z1; replace z2 := cell_low hb GB.out z2; replace z3 := cell_low hb GB.out z3; clear hr hgr hb) | (go_at_call 21; (with_reducible refine (signed_some w9 HR.out E2.out SG.out).mono ?_); rintro e w10 ⟨rfl, hr, hgr⟩; have hb := below_of_grown hgr HB.out.size (fun k e => by cases e; exact G1.out); replace HR := Aside0.mk hr; replace HB := Aside0.mk (HB.out.trans hb); replace z0 := cell_low hb GB.out z0; replace z1 := cell_low hb GB.out z1; replace z2 := cell_low hb GB.out z2; replace z3 := cell_low hb GB.out z3; clear hr hgr hb) | (go_at_call 22; (with_reducible refine (bytes_some w10 HR.out (by have := HL0.out; omega) (by have := HS1.out; omega) E3.out).mono ?_); rintro e w11 ⟨A11, c11, rfl, hc11, hC, hlo, hr, hgr⟩; have hb := below_of_grown hgr HB.out.size (fun k e => by cases e; exact G1.out); have HLO := Aside0.mk (show ∀ ad, A11 = some ad → some ad.block ≠ some g1 from fun ad e => by have h1 := hlo ad e; have h2 := HR.out.lt; intro h3; have h4 := Option.some.inj h3; omega); replace HR := Aside0.mk hr; replace HB := Aside0.mk (HB.out.trans hb); replace z0 := cell_low hb GB.out z0; replace z1 := cell_low hb GB.out z1; replace z2 := cell_low hb GB.out z2; replace z3 := cell_low hb GB.out z3; have HX := Aside0.mk hC; clear hr hgr hb hC hlo) | (go_at_call 23; (with_reducible refine (flag_some w11 HR.out E4.out).mono ?_); rintro e w12 ⟨rfl, hr, hgr⟩; have hb := below_of_grown hgr HB.out.size (fun k e => by cases e; exact G1.out); replace HX := Aside0.mk (Rd.C_grown HX.out hgr HLO.out); replace HR := Aside0.mk hr; replace HB := Aside0.mk (HB.out.trans hb); replace z0 := cell_low hb GB.out z0; replace z1 := cell_low hb GB.out z1; replace z2 := cell_low hb GB.out z2; replace z3 := cell_low hb GB.out z3; have hcv1 := Kd.C_string (P := Try.prog) (src := 23) (dst := 9) (A := A11) (c := c11) Try.underlying23 Try.underlying5 Try.underlying9 HX.out; have hcv2 := Kd.C_string (P := Try.prog) (src := 23) (dst := 9) (A := A) (c := c) Try.underlying23 Try.underlying5 Try.underlying9 (HI.out.below HB.out).hA; clear hr hgr hb) | (go_at_call 24; refine (num_call _ _).mono ?_; rintro e wn ⟨rfl, hd⟩; have hb := hd.below; replace HR := Aside0.mk (HR.out.below hb); replace HB := Aside0.mk (below_step HB.out hb); clear hd hb) | (go_at_call 25; (with_reducible refine (CE.out _ _ _ HR.out).mono ?_); rintro e wn ⟨rfl, hd⟩; have hb := hd.below; replace HR := Aside0.mk (HR.out.below hb); replace HB := Aside0.mk (below_step HB.out hb); clear hd hb))
  clear z0 z1 z2 z3 hcv1 hcv2 HX HLO HR E1 E2 E3 E4 E5 SG CE HS1 HS2 HC7 y0 y1 y2 y3 HL0
  obtain ⟨eb, y, m, hrb, hcase⟩ := half b HI.out.yb HBL.out
  have EB := Aside0.mk hrb
  clear hrb
  have CL : Aside0 (∀ (g y : Nat) (W : World), Rd.Is W g y b m → Calls Try.prog 26 #[.pointer (some ⟨g, 0, none⟩)] W fun e w' => e = .returned (.int .i64 ((b.length - m : Nat) : Int)) ∧ Drawn0 W w') := ⟨fun g y W h => (Rd.left g y b m W h).mono fun e w' ⟨h1, h2⟩ => ⟨h1, ⟨h2⟩⟩⟩
  rcases hcase with ⟨h34, rfl⟩ | ⟨rfl, z, hz1, hz2, hz3, hz4, hz5, hz6, hz7, hz8⟩
  · rw [Nat.sub_zero] at CL
    rcases h34 with rfl | rfl
    all_goals
      as_aux_lemma =>
        go_wp2_with (first | (go_at_call 19; (with_reducible refine (open_rows (HI.out.below HB.out).hB HI.out.hd HI.out.yb (by have := HBL.out; omega)).mono ?_); rintro e w13 ⟨g2, q2, rfl, hr, hq, hg, hb⟩; replace HR := Aside0.mk hr; have G2 := Aside0.mk (Nat.le_trans HB.out.size hg); replace HB := Aside0.mk (below_step HB.out hb); clear hr hq hg hb) | (go_at_call 22; (with_reducible refine (bytes_some w13 HR.out (by have := HBL.out; omega) (by have := HBL.out; omega) EB.out).mono ?_); rintro e w14 ⟨A14, c14, rfl, hc14, hC, hlo, hr, hgr⟩; have hb := below_of_grown hgr HB.out.size (fun k e => by cases e; exact G2.out); replace HR := Aside0.mk hr; replace HB := Aside0.mk (HB.out.trans hb); have HX := Aside0.mk hC; clear hr hgr hb hC hlo) | (go_at_call 24; refine (num_call _ _).mono ?_; rintro e wn ⟨rfl, hd⟩; have hb := hd.below; replace HR := Aside0.mk (HR.out.below hb); replace HB := Aside0.mk (below_step HB.out hb); clear hd hb) | (go_at_call 26; (with_reducible refine (CL.out _ _ _ HR.out).mono ?_); rintro e wl ⟨rfl, hd⟩; have hb := hd.below; replace HR := Aside0.mk (HR.out.below hb); replace HB := Aside0.mk (below_step HB.out hb); clear hd hb) | (go_at_call 18; refine (known_call _).mono ?_; rintro e wk ⟨rfl, hb⟩; replace HB := Aside0.mk (below_step HB.out hb); clear hb))
        try rw [Exit.noGoto_ret]
        go_ret
        exact ⟨by simp, HW0.out.trans (HB.out.mono HW0.out.size)⟩
  · as_aux_lemma =>
      have CZ := Aside0.mk (fun (A : Option Addr) (c : Nat) (W : World) (h : Kd.C (Kd.int .u8) W A y.length y) (h2 : y.length ≤ c) => wire_Bytes.calls A c y z W h h2 (by rw [bytes_form hz6, hz1]))
      obtain ⟨q, hq⟩ : ∃ q : Int, q = ((b.length - m : Nat) : Int) := ⟨_, rfl⟩
      rw [← hq] at CL
      have gq : wrap64 ((b.length : Int) - q) = (z.length : Int) := by rw [hq]; have := HBL.out; unfold wrap64; omega
      obtain ⟨zz, hzz⟩ : ∃ zz, zz = z.take (z.length - 1) := ⟨_, rfl⟩
      have hzl : zz.length + 1 = z.length := by rw [hzz, List.length_take]; omega
      have gz : wrap64 ((z.length : Int) - 1) = (zz.length : Int) := by have := HBL.out; unfold wrap64; omega
      rw [← hzz] at hz7 hz8
      have EZ := Aside0.mk hz8
      have HZB := Aside0.mk hz7
      have HZT := Aside0.mk hzz
      have HBZ := Aside0.mk hz2
      have HLZ := Aside0.mk hz5
      clear hz1 hz2 hz3 hz4 hz5 hz6 hz7 hz8 hzz hq
      go_upto_region 18 with (first | (go_at_call 19; (with_reducible refine (open_rows (HI.out.below HB.out).hB HI.out.hd HI.out.yb (by have := HBL.out; omega)).mono ?_); rintro e w13 ⟨g2, q2, rfl, hr, hq, hg, hb⟩; replace HR := Aside0.mk hr; have G2 := Aside0.mk (Nat.le_trans HB.out.size hg); replace HB := Aside0.mk (below_step HB.out hb); clear hr hq hg hb) | (go_at_call 22; (with_reducible refine (bytes_some w13 HR.out (by have := HBL.out; omega) (by have := HBL.out; omega) EB.out).mono ?_); rintro e w14 ⟨A14, c14, rfl, hc14, hC, hlo, hr, hgr⟩; have hb := below_of_grown hgr HB.out.size (fun k e => by cases e; exact G2.out); replace HR := Aside0.mk hr; replace HB := Aside0.mk (HB.out.trans hb); have HX := Aside0.mk hC; clear hr hgr hb hC hlo) | (go_at_call 24; refine (num_call _ _).mono ?_; rintro e wn ⟨rfl, hd⟩; have hb := hd.below; (try replace HX := Aside0.mk (Kd.C_below HX.out hb)); replace HR := Aside0.mk (HR.out.below hb); replace HB := Aside0.mk (below_step HB.out hb); clear hd hb) | (go_at_call 8; (with_reducible refine (CZ.out _ _ _ HX.out hc14).mono ?_); rintro e w15 ⟨v15, rfl, hx, hb⟩; obtain ⟨A15, c15, rfl, hc15, hC⟩ := Kd.R_reads hx; have HZ := Aside0.mk hC; replace HR := Aside0.mk (HR.out.below hb); replace HB := Aside0.mk (below_step HB.out hb); clear hx hb hC))
      obtain ⟨i5, hi5, hs5⟩ : ∃ ie, Try.prog.info? 5 = some ie ∧ ie.size = 1 := by
        have h : (Try.prog.info? 5).map (fun i => i.size) = some 1 := by kernel_rfl
        obtain ⟨ie, h1, h2⟩ := Option.map_eq_some_iff.mp h
        exact ⟨ie, h1, h2⟩
      have hlz := HLZ.out
      have hcd := HI.out.hd
      have hcu := cut_to (P := Try.prog) 23 5 .i64 Try.underlying23 hi5 B b.length d (z.length : Int) (by omega) (by omega) hcd
      simp only [Int.toNat_natCast] at hcu
      have hcu2 := cut_to (P := Try.prog) 23 5 .i64 Try.underlying23 hi5 A15 z.length c15 (zz.length : Int) (by omega) (by omega) hc15
      simp only [Int.toNat_natCast] at hcu2
      have HZL : Aside0 (zz.length < c15 ∧ zz.length < b.length) := ⟨by omega, by omega⟩
      have hBz := Kd.C_take (m := z.length) (HI.out.below HB.out).hB hlz
      rw [← HBZ.out] at hBz
      have HZd := Aside0.mk (Kd.C_drewN HZ.out 1)
      have HBd := Aside0.mk (Kd.C_drewN hBz 1)
      change Aside0 (Kd.C (Kd.int .u8) w15.drew A15 z.length z) at HZd
      change Aside0 (Kd.C (Kd.int .u8) w15.drew B z.length z) at HBd
      have hzt := Kd.C_take (m := zz.length) HZ.out (by omega)
      rw [show z.take zz.length = zz by rw [HZT.out, List.length_take]; congr 1; omega] at hzt
      have HZZ := Aside0.mk hzt
      replace HR := Aside0.mk (HR.out.drewN 1)
      replace HB := Aside0.mk (pw_below_drewN HB.out 1)
      replace HZZ := Aside0.mk (Kd.C_drewN HZZ.out 1)
      change Aside0 (Rd.Is w15.drew g2 q2 b m) at HR
      change Aside0 (Below w1.heap.size w1 w15.drew) at HB
      change Aside0 (Kd.C (Kd.int .u8) w15.drew A15 zz.length zz) at HZZ
      clear hBz hzt hi5 hs5 HZ HX hlz hcd
      refine start_ (n := 18) (S := fun w' => (Go.convert 23 9 (.slice A15 z.length c15)).run Try.prog w' = .ok (.string (strOfNums z)) w' ∧ (Go.convert 23 9 (.slice B z.length d)).run Try.prog w' = .ok (.string (strOfNums z)) w') (ds := []) #[false, false, false, false, false, false, false, false, false, false, false, false, false, false, false, false, false, false] (by kernel_rfl) rfl rfl ⟨Kd.C_string (P := Try.prog) (src := 23) (dst := 9) (A := A15) (c := c15) Try.underlying23 Try.underlying5 Try.underlying9 HZd.out, Kd.C_string (P := Try.prog) (src := 23) (dst := 9) (A := B) (c := d) Try.underlying23 Try.underlying5 Try.underlying9 HBd.out⟩ (fun hHeld => ?_)
      refine pure_ (i := 0) (N := some 129) (v := ?_) (a' := ?_) #[true, false, false, false, false, false, false, false, false, false, false, false, false, false, false, false, false, false] rfl rfl (by kernel_rfl) (fun _ _ _ h => h) (Or.inl ⟨by rfl, ?_⟩) ?_ ?_
      rotate_left
      · intro w'
        go_simp
        with_reducible rfl
      rotate_left
      · simp only [Act.put, List.setIfInBounds_toArray, List.set_cons_zero, List.set_cons_succ, i64_w, i32_w]
        rfl
      refine pure_ (i := 1) (N := some 130) (v := ?_) (a' := ?_) #[true, true, false, false, false, false, false, false, false, false, false, false, false, false, false, false, false, false] rfl rfl (by kernel_rfl) (fun _ _ _ h => h) (Or.inl ⟨by rfl, ?_⟩) ?_ ?_
      rotate_left
      · intro w'
        go_simp
        with_reducible rfl
      rotate_left
      · simp only [Act.put, List.setIfInBounds_toArray, List.set_cons_zero, List.set_cons_succ, i64_w, i32_w]
        rfl
      refine pure_ (i := 2) (N := some 131) (v := ?_) (a' := ?_) #[true, true, true, false, false, false, false, false, false, false, false, false, false, false, false, false, false, false] rfl rfl (by kernel_rfl) (fun _ _ _ h => h) (Or.inl ⟨by rfl, ?_⟩) ?_ ?_
      rotate_left
      · intro w'
        go_simp
        with_reducible rfl
      rotate_left
      · simp only [Act.put, List.setIfInBounds_toArray, List.set_cons_zero, List.set_cons_succ, i64_w, i32_w]
        rfl
      refine pure_ (i := 3) (N := some 132) (v := ?_) (a' := ?_) #[true, true, true, true, false, false, false, false, false, false, false, false, false, false, false, false, false, false] rfl rfl (by kernel_rfl) (fun _ _ _ h => h) (Or.inl ⟨by rfl, ?_⟩) ?_ ?_
      rotate_left
      · intro w'
        go_simp
        with_reducible rfl
      rotate_left
      · simp only [Act.put, List.setIfInBounds_toArray, List.set_cons_zero, List.set_cons_succ, i64_w, i32_w]
        rfl
      refine pure_ (i := 4) (N := some 133) (v := ?_) (a' := ?_) #[true, true, true, true, true, false, false, false, false, false, false, false, false, false, false, false, false, false] rfl rfl (by kernel_rfl) (fun _ _ _ h => h) (Or.inl ⟨by rfl, ?_⟩) ?_ ?_
      rotate_left
      · intro w'
        go_simp
        with_reducible rfl
      rotate_left
      · simp only [Act.put, List.setIfInBounds_toArray, List.set_cons_zero, List.set_cons_succ, i64_w, i32_w]
        rfl
      refine one_ (i := 5) (N := some 134) #[true, true, true, true, true, true, false, false, false, false, false, false, false, false, false, false, false, false] rfl rfl (by kernel_rfl) (by decide) (fun K hK => ?_)
      refine goes_ Try.func26 (by kernel_rfl) rfl #[.pointer (some ⟨g2, 0, none⟩)] (by rfl) rfl rfl (by (try simp only [List.map_toArray, List.map_cons, List.map_nil]); first | done | rfl) ?_
      with_reducible refine (CL.out _ _ _ HR.out).mono ?_
      rintro e w16 ⟨rfl, ⟨n5, rfl⟩⟩
      refine ⟨_, rfl, ?_⟩
      refine hK.out _ _ ⟨Kd.C_string (P := Try.prog) (src := 23) (dst := 9) (A := A15) (c := c15) Try.underlying23 Try.underlying5 Try.underlying9 (Kd.C_drewN HZd.out n5), Kd.C_string (P := Try.prog) (src := 23) (dst := 9) (A := B) (c := d) Try.underlying23 Try.underlying5 Try.underlying9 (Kd.C_drewN HBd.out n5)⟩ (fun hHeld => ?_)
      clear hK K
      refine norm_ (a' := ?_) ?_ ?_
      rotate_left
      · show Act.put _ (some 134) _ = _
        simp only [Act.put, List.setIfInBounds_toArray, List.set_cons_zero, List.set_cons_succ, i64_w, i32_w]
        rfl
      refine pure_ (i := 6) (N := some 135) (v := ?_) (a' := ?_) #[true, true, true, true, true, true, true, false, false, false, false, false, false, false, false, false, false, false] rfl rfl (by kernel_rfl) (fun _ _ _ h => h) (Or.inl ⟨by rfl, ?_⟩) ?_ ?_
      rotate_left
      · intro w'
        go_simp
        with_reducible rfl
      rotate_left
      · simp only [Act.put, List.setIfInBounds_toArray, List.set_cons_zero, List.set_cons_succ, i64_w, i32_w]
        rfl
      refine pure_ (i := 7) (N := some 136) (v := ?_) (a' := ?_) #[true, true, true, true, true, true, true, true, false, false, false, false, false, false, false, false, false, false] rfl rfl (by kernel_rfl) (fun _ _ _ h => h) (Or.inl ⟨by rfl, ?_⟩) ?_ ?_
      rotate_left
      · intro w'
        go_simp
        with_reducible rfl
      rotate_left
      · simp only [Act.put, List.setIfInBounds_toArray, List.set_cons_zero, List.set_cons_succ, i64_w, i32_w]
        rfl
      refine pure_ (i := 8) (N := some 137) (v := ?_) (a' := ?_) #[true, true, true, true, true, true, true, true, true, false, false, false, false, false, false, false, false, false] rfl rfl (by kernel_rfl) (fun _ _ _ h => h) (Or.inl ⟨by rfl, ?_⟩) ?_ ?_
      rotate_left
      · intro w'
        go_simp
        with_reducible rfl
      rotate_left
      · simp only [Act.put, List.setIfInBounds_toArray, List.set_cons_zero, List.set_cons_succ, i64_w, i32_w]
        rfl
      refine pure_ (i := 9) (N := some 138) (v := ?_) (a' := ?_) #[true, true, true, true, true, true, true, true, true, true, false, false, false, false, false, false, false, false] rfl rfl (by kernel_rfl) (fun _ _ _ h => h) (Or.inl ⟨by rfl, ?_⟩) ?_ ?_
      rotate_left
      · intro w'
        go_simp
        with_reducible rfl
      rotate_left
      · simp only [Act.put, List.setIfInBounds_toArray, List.set_cons_zero, List.set_cons_succ, i64_w, i32_w]
        rfl
      refine take_ (i := 10) (N := some 139) (v := ?_) (a' := ?_) #[true, true, true, true, true, true, true, true, true, true, true, false, false, false, false, false, false, false] rfl rfl (by kernel_rfl) (fun _ _ _ h => h) (Or.inl ⟨by rfl, ?_⟩) hHeld ?_ ?_
      rotate_left
      · rintro w' ⟨s0, s1⟩
        go_simp
        with_reducible rfl
      rotate_left
      · simp only [Act.put, List.setIfInBounds_toArray, List.set_cons_zero, List.set_cons_succ, i64_w, i32_w]
        rfl
      refine pure_ (i := 11) (N := some 140) (v := ?_) (a' := ?_) #[true, true, true, true, true, true, true, true, true, true, true, true, false, false, false, false, false, false] rfl rfl (by kernel_rfl) (fun _ _ _ h => h) (Or.inl ⟨by rfl, ?_⟩) ?_ ?_
      rotate_left
      · intro w'
        go_simp
        with_reducible rfl
      rotate_left
      · simp only [Act.put, List.setIfInBounds_toArray, List.set_cons_zero, List.set_cons_succ, i64_w, i32_w]
        rfl
      refine pure_ (i := 12) (N := some 141) (v := ?_) (a' := ?_) #[true, true, true, true, true, true, true, true, true, true, true, true, true, false, false, false, false, false] rfl rfl (by kernel_rfl) (fun _ _ _ h => h) (Or.inl ⟨by rfl, ?_⟩) ?_ ?_
      rotate_left
      · intro w'
        go_simp
        with_reducible rfl
      rotate_left
      · simp only [Act.put, List.setIfInBounds_toArray, List.set_cons_zero, List.set_cons_succ, i64_w, i32_w]
        rfl
      refine pure_ (i := 13) (N := some 142) (v := ?_) (a' := ?_) #[true, true, true, true, true, true, true, true, true, true, true, true, true, true, false, false, false, false] rfl rfl (by kernel_rfl) (fun _ _ _ h => h) (Or.inl ⟨by rfl, ?_⟩) ?_ ?_
      rotate_left
      · intro w'
        go_simp
        with_reducible rfl
      rotate_left
      · simp only [Act.put, List.setIfInBounds_toArray, List.set_cons_zero, List.set_cons_succ, i64_w, i32_w]
        rfl
      refine pure_ (i := 14) (N := some 143) (v := ?_) (a' := ?_) #[true, true, true, true, true, true, true, true, true, true, true, true, true, true, true, false, false, false] rfl rfl (by kernel_rfl) (fun _ _ _ h => h) (Or.inl ⟨by rfl, ?_⟩) ?_ ?_
      rotate_left
      · intro w'
        go_simp
        with_reducible rfl
      rotate_left
      · simp only [Act.put, List.setIfInBounds_toArray, List.set_cons_zero, List.set_cons_succ, i64_w, i32_w]
        rfl
      refine take_ (i := 15) (N := some 144) (v := ?_) (a' := ?_) #[true, true, true, true, true, true, true, true, true, true, true, true, true, true, true, true, false, false] rfl rfl (by kernel_rfl) (fun _ _ _ h => h) (Or.inl ⟨by rfl, ?_⟩) hHeld ?_ ?_
      rotate_left
      · rintro w' ⟨s0, s1⟩
        go_simp
        with_reducible rfl
      rotate_left
      · simp only [Act.put, List.setIfInBounds_toArray, List.set_cons_zero, List.set_cons_succ, i64_w, i32_w]
        rfl
      refine pure_ (i := 16) (N := some 145) (v := ?_) (a' := ?_) #[true, true, true, true, true, true, true, true, true, true, true, true, true, true, true, true, true, false] rfl rfl (by kernel_rfl) (fun _ _ _ h => h) (Or.inl ⟨by rfl, ?_⟩) ?_ ?_
      rotate_left
      · intro w'
        go_simp
        with_reducible rfl
      rotate_left
      · simp only [Act.put, List.setIfInBounds_toArray, List.set_cons_zero, List.set_cons_succ, i64_w, i32_w]
        rfl
      refine pure_ (i := 17) (N := some 146) (v := ?_) (a' := ?_) #[true, true, true, true, true, true, true, true, true, true, true, true, true, true, true, true, true, true] rfl rfl (by kernel_rfl) (fun _ _ _ h => h) (Or.inl ⟨by rfl, ?_⟩) ?_ ?_
      rotate_left
      · intro w'
        go_simp
        with_reducible rfl
      rotate_left
      · simp only [Act.put, List.setIfInBounds_toArray, List.set_cons_zero, List.set_cons_succ, i64_w, i32_w]
        rfl
      refine done_ (by kernel_rfl) ?_
      replace HR := Aside0.mk (HR.out.drewN n5)
      replace HB := Aside0.mk (pw_below_drewN HB.out n5)
      replace HZZ := Aside0.mk (Kd.C_drewN HZZ.out n5)
      clear HZd HBd hHeld
      generalize w15.drew.drewN n5 = w16 at HR HB HZZ ⊢
      go_wp2_with (first | (go_at_call 19; (with_reducible refine (open_rows HZZ.out (by have := HZL.out; omega) HZB.out (by have := HZL.out; have := HBL.out; omega)).mono ?_); rintro e w17 ⟨g3, q3, rfl, hr, hq, hg, hb⟩; replace HR := Aside0.mk hr; have G3 := Aside0.mk (Nat.le_trans HB.out.size hg); replace HB := Aside0.mk (below_step HB.out hb); clear hr hq hg hb) | (go_at_call 22; (with_reducible refine (bytes_some w17 HR.out (by have := HBL.out; omega) (by have := HZL.out; have := HBL.out; omega) EZ.out).mono ?_); rintro e w18 ⟨A18, c18, rfl, hc18, hC, hlo, hr, hgr⟩; have hb := below_of_grown hgr HB.out.size (fun k e => by cases e; exact G3.out); replace HR := Aside0.mk hr; replace HB := Aside0.mk (HB.out.trans hb); clear hr hgr hb hC hlo) | (go_at_call 24; refine (num_call _ _).mono ?_; rintro e wn ⟨rfl, hd⟩; have hb := hd.below; (try replace HX := Aside0.mk (Kd.C_below HX.out hb)); replace HR := Aside0.mk (HR.out.below hb); replace HB := Aside0.mk (below_step HB.out hb); clear hd hb) | (go_at_call 18; refine (known_call _).mono ?_; rintro e wk ⟨rfl, hb⟩; replace HB := Aside0.mk (below_step HB.out hb); clear hb))
      try rw [Exit.noGoto_ret]
      go_ret
      exact ⟨by simp, HW0.out.trans (HB.out.mono HW0.out.size)⟩
theorem byt_wf {l : List Int} (h : ∀ x ∈ l, (Go.Lit.int .u8 x).wf = true) : Rd.Byt l := fun x hx => by
  have h1 := h x hx
  simp [Go.Lit.wf, IntKind.min, IntKind.max, IntKind.signed, IntKind.bits] at h1
  omega
theorem back_wf (A B : Option Addr) (c d : Nat) (N S : Int) (F : Bool) (l b : List Int) (w : World) (hA : Kd.C (Kd.int .u8) w A l.length l) (hc : l.length ≤ c) (hB : Kd.C (Kd.int .u8) w B b.length b) (hd : b.length ≤ d) (yl : ∀ x ∈ l, (Go.Lit.int .u8 x).wf = true) (yb : ∀ x ∈ b, (Go.Lit.int .u8 x).wf = true) (hN : (Go.Lit.int .u64 N).wf = true) (hS : (Go.Lit.int .i64 S).wf = true) (hl : l.length * 1 ≤ 140737488351232) (hbl : b.length * 1 ≤ 140737488351232) :
    Calls Try.prog 4 #[.agg #[.int .u64 N, .int .i64 S, .bool F, .slice A l.length c], .slice B b.length d] w (RightPost w) := by
  simp [Go.Lit.wf, IntKind.min, IntKind.max, IntKind.signed, IntKind.bits] at hN hS
  obtain ⟨n, rfl⟩ := Int.eq_ofNat_of_zero_le (show 0 ≤ N by omega)
  exact back_walk A B c d n S F l b w ⟨hA, hc, hB, hd, byt_wf yl, byt_wf yb⟩ (by omega) (by omega) (by omega) (by omega) (by omega)
end Go.Proofs.Ytmghnbdbhdljjaa.Wl
