/- The law RowBounds' call. -/
import Derived.Test.YtmpbcmnnlkienaaBack
namespace Go.Proofs.Ytmpbcmnnlkienaa.Of
open Go.RowKit Go.Proofs.YtmpbcmnnlkienaaW.PrintWords Go.Proofs.YtmpbcmnnlkienaaW.PrintLast Go.Proofs.YtmpbcmnnlkienaaW.PrintMore Go.Proofs.Ytmpbcmnnlkienaa.HS Go.Proofs.Ytmpbcmnnlkienaa.Pure
attribute [local go_sem] max2_int min2_int max_two min_two max_three min_three max_four min_four
set_option linter.unusedVariables false
set_option linter.unusedSimpArgs false
def bnd.T15 : Bool × List (List Nat × List Nat) := (true, [([], []), ([], []), ([0, 1], [0, 1]), ([2], [2]), ([3], [3]), ([3], [3]), ([4, 2, 0, 1, 2, 3, 4], [4]), ([5, 6, 0, 1, 2, 3, 4, 5, 6], [5])])
def bnd.B15 : List Nat := [0, 0, 3, 7, 15, 15, 31, 127]
theorem bnd.tab15 : rtab .any (opsOf Try.f9 15) = bnd.T15 := by kernel_rfl
theorem bnd.bits15 : waitsOk bnd.T15.2 bnd.B15 = true := by kernel_rfl
theorem drawn_below {w w' : World} (h : Drawn0 w w') : Below w.heap.size w w' := by obtain ⟨m, rfl⟩ := h; exact pw_below_drewN (Below.refl _ _) m
def z (n : Nat) : List Int := List.replicate n 0
def full3 : List (List Int) := [z 24, z 24, z 24]
def four4 : List (List Int) := ([] ++ full3) ++ [[]]
theorem z_byt (n : Nat) : Rd.Byt (z n) := by
  intro x hx
  have := List.eq_of_mem_replicate hx
  omega
theorem full_byts : Byts full3 := by
  intro f hf
  simp only [full3, List.mem_cons, List.not_mem_nil, or_false] at hf
  rcases hf with rfl | rfl | rfl <;> exact z_byt 24
theorem four_byts : Byts four4 := by
  intro f hf
  rcases List.mem_append.1 hf with hf | hf
  · exact full_byts f hf
  · rw [List.mem_singleton.1 hf]; intro x hx; simp at hx
theorem full_may : mayB full3 = true := by decide +kernel
theorem full_len : (rowB full3).length = 76 := by decide +kernel
theorem words_len : (wordsB (rowB full3)).length = 11 := by decide +kernel
theorem words_of : ofB (wordsB (rowB full3)) = some full3 := ofB_wordsB full_byts full_may
theorem words_u : U64s (wordsB (rowB full3)) := wordsB_u64 _ (rowB_byt full_byts full_may) (by rw [full_len]; omega)
theorem words_of0 : ofB (([] ++ wordsB (rowB full3)) ++ [0]) = none := bad_of (by simp only [List.nil_append, List.length_append, words_len, List.length_cons, List.length_nil]; omega)
theorem u_lit (l : List Int) (h : l.all (fun x => decide (0 ≤ x ∧ x < 18446744073709551616)) = true) : U64s l := fun x hx => of_decide_eq_true (List.all_eq_true.1 h x hx)
theorem b_lit (l : List Int) (h : l.all (fun x => decide (0 ≤ x ∧ x < 256)) = true) : Rd.Byt l := fun x hx => of_decide_eq_true (List.all_eq_true.1 h x hx)
theorem of2 : ofB [3, 72445721642532865] = none := by decide +kernel
theorem of3 : ofB [3, 72445721642532864, 0] = none := by decide +kernel
theorem of4 : ofB [2, 72445721642532864] = none := by decide +kernel
theorem of5 : ofB [4611686018427387904] = none := by decide +kernel
theorem four_may : mayB four4 = false := by decide +kernel
theorem read1 : readB [4, 0, 0, 0, 0] = none := by decide +kernel
theorem read2 : readB [0] = none := by decide +kernel
theorem ent1 : entryOk (z 24) (z 32) = true := by decide +kernel
theorem ent1_len : (entryB (z 24) (z 32)).length = 82 := by decide +kernel
theorem ent2 : entryOk [] (z 33) = false := by decide +kernel
theorem spl1 : splitGo [0, 2, 5] [] = none := by decide +kernel
theorem spl2 : splitGo [0, 1] [] = none := by decide +kernel
theorem key1 : mayK (z 32) = true := by decide +kernel
theorem key2 : mayK (z 33) = false := by decide +kernel
theorem keyN : mayK [] = false := by decide +kernel
theorem full_four : decide (full3 = four4) = false := by decide +kernel
theorem of_none {l : List Int} (hU : U64s l) (h : ofB l = none) (A : Option Addr) (c : Nat) (W : World) (h1 : Kd.C (Kd.int .u64) W A l.length l) (h2 : l.length ≤ c) : Calls Try.prog 33 #[.slice A l.length c] W (RowsOut [] 4 W) := rows_of h1 h2 hU (by rw [h]; rfl) (by rw [h]; rfl)
theorem read_none {l : List Int} (hU : Rd.Byt l) (hl : l.length ≤ 1000) (h : readB l = none) (A : Option Addr) (c : Nat) (W : World) (h1 : Kd.C (Kd.int .u8) W A l.length l) (h2 : l.length ≤ c) : Calls Try.prog 31 #[.slice A l.length c] W (RowsOut [] 4 W) := rows_read h1 h2 hU (by omega) (by rw [h]; rfl) (by rw [h]; rfl)
set_option maxHeartbeats 16000000 in
set_option maxRecDepth 100000 in
theorem bounds_walk (w : World) : Calls Try.prog 9 #[] w (RightPost w) := by
  have HB := Aside0.mk (Below.refl w.heap.size w)
  obtain ⟨y242, hy242⟩ : ∃ y : List Int, y = List.replicate 24 0 := ⟨_, rfl⟩
  obtain ⟨y245, hy245⟩ : ∃ y : List Int, y = List.replicate 24 0 := ⟨_, rfl⟩
  obtain ⟨y248, hy248⟩ : ∃ y : List Int, y = List.replicate 24 0 := ⟨_, rfl⟩
  obtain ⟨y251, hy251⟩ : ∃ y : List (List Int), y = [y242, y245, y248] := ⟨_, rfl⟩
  obtain ⟨y332, hy332⟩ : ∃ y : List Int, y = List.replicate 24 0 := ⟨_, rfl⟩
  obtain ⟨y335, hy335⟩ : ∃ y : List Int, y = List.replicate 32 0 := ⟨_, rfl⟩
  obtain ⟨y342, hy342⟩ : ∃ y : List Int, y = List.replicate 33 0 := ⟨_, rfl⟩
  obtain ⟨y386, hy386⟩ : ∃ y : List Int, y = List.replicate 32 0 := ⟨_, rfl⟩
  obtain ⟨y390, hy390⟩ : ∃ y : List Int, y = List.replicate 33 0 := ⟨_, rfl⟩
  obtain ⟨y280, hy280⟩ : ∃ y : List Int, y = [3, 72445721642532865] := ⟨_, rfl⟩
  obtain ⟨y287, hy287⟩ : ∃ y : List Int, y = [3, 72445721642532864, 0] := ⟨_, rfl⟩
  obtain ⟨y294, hy294⟩ : ∃ y : List Int, y = [2, 72445721642532864] := ⟨_, rfl⟩
  obtain ⟨y301, hy301⟩ : ∃ y : List Int, y = [4611686018427387904] := ⟨_, rfl⟩
  obtain ⟨y318, hy318⟩ : ∃ y : List Int, y = [4, 0, 0, 0, 0] := ⟨_, rfl⟩
  obtain ⟨y325, hy325⟩ : ∃ y : List Int, y = [0] := ⟨_, rfl⟩
  obtain ⟨y349, hy349⟩ : ∃ y : List Int, y = [0, 2, 5] := ⟨_, rfl⟩
  obtain ⟨y359, hy359⟩ : ∃ y : List Int, y = [0, 1] := ⟨_, rfl⟩
  obtain ⟨y395, hy395⟩ : ∃ y : List (List Int), y = [] := ⟨_, rfl⟩
  obtain ⟨xw, hxw⟩ : ∃ y : List Int, y = wordsB (rowB full3) := ⟨_, rfl⟩
  obtain ⟨xb, hxb⟩ : ∃ y : List Int, y = rowB full3 := ⟨_, rfl⟩
  obtain ⟨xe, hxe⟩ : ∃ y : List Int, y = entryB (z 24) (z 32) := ⟨_, rfl⟩
  obtain ⟨y266, hy266⟩ : ∃ y : List Int, y = [] ++ xw := ⟨_, rfl⟩
  obtain ⟨y269, hy269⟩ : ∃ y : List Int, y = y266 ++ [0] := ⟨_, rfl⟩
  obtain ⟨y308, hy308⟩ : ∃ y : List (List Int), y = [] ++ y251 := ⟨_, rfl⟩
  obtain ⟨y311, hy311⟩ : ∃ y : List (List Int), y = y308 ++ [[]] := ⟨_, rfl⟩
  have e251 : y251 = full3 := by rw [hy251, hy242, hy245, hy248]; rfl
  have e311 : y311 = four4 := by rw [hy311, hy308, e251]; rfl
  have lxb : xb.length = 76 := by rw [hxb]; exact full_len
  have lxw : xw.length = 11 := by rw [hxw]; exact words_len
  have lxe : xe.length = 82 := by rw [hxe]; exact ent1_len
  have l251 : y251.length = 3 := by rw [e251]; rfl
  have CB := Aside0.mk (fun (W : World) (A : Option Addr) (c : Nat) (h1 : Kd.C (Kd.slice 5 (Kd.int .u8)) W A y251.length y251) (h2 : y251.length ≤ c) => bytes_call h1 h2)
  have CW := Aside0.mk (fun (W : World) (A : Option Addr) (c : Nat) (h1 : Kd.C (Kd.slice 5 (Kd.int .u8)) W A y251.length y251) (h2 : y251.length ≤ c) => words_call A c y251 W h1 h2 (by rw [e251]; exact full_byts))
  rw [show (if mayB y251 = true then rowB y251 else []) = xb by rw [e251, if_pos full_may, hxb], show (if mayB y251 = true then (0 : Int) else 2) = 0 by rw [e251, if_pos full_may]] at CB
  rw [show (if mayB y251 = true then wordsB (rowB y251) else []) = xw by rw [e251, if_pos full_may, hxw], show (if mayB y251 = true then (0 : Int) else 2) = 0 by rw [e251, if_pos full_may]] at CW
  have CB4 := Aside0.mk (fun (W : World) (A : Option Addr) (c : Nat) (h1 : Kd.C (Kd.slice 5 (Kd.int .u8)) W A y311.length y311) (h2 : y311.length ≤ c) => bytes_call h1 h2)
  rw [show (if mayB y311 = true then rowB y311 else []) = [] by rw [e311, four_may]; rfl, show (if mayB y311 = true then (0 : Int) else 2) = 2 by rw [e311, four_may]; rfl] at CB4
  have CO0 := Aside0.mk (fun (A : Option Addr) (c : Nat) (W : World) (h1 : Kd.C (Kd.int .u64) W A xw.length xw) (h2 : xw.length ≤ c) => rows_of (rr := y251) (en := 0) h1 h2 (by rw [hxw]; exact words_u) (by rw [hxw, words_of, e251]; rfl) (by rw [hxw, words_of]; rfl))
  have CO1 := Aside0.mk (of_none (l := y269) (by rw [hy269, hy266, hxw]; intro x hx; rcases List.mem_append.1 hx with hx | hx; exact words_u x (by simpa using hx); rw [List.mem_singleton.1 hx]; omega) (by rw [hy269, hy266, hxw]; exact words_of0))
  have CON : Aside0 (∀ W : World, Calls Try.prog 33 #[.slice none 0 0] W (RowsOut [] 4 W)) := Aside0.mk (fun (W : World) => of_none (l := []) (fun x hx => by simp at hx) ofB_nil none 0 W (Kd.C_nil _ _) (Nat.le_refl _))
  have CO2 := Aside0.mk (of_none (l := y280) (by rw [hy280]; exact u_lit _ (by decide)) (by rw [hy280]; exact of2))
  have CO3 := Aside0.mk (of_none (l := y287) (by rw [hy287]; exact u_lit _ (by decide)) (by rw [hy287]; exact of3))
  have CO4 := Aside0.mk (of_none (l := y294) (by rw [hy294]; exact u_lit _ (by decide)) (by rw [hy294]; exact of4))
  have CO5 := Aside0.mk (of_none (l := y301) (by rw [hy301]; exact u_lit _ (by decide)) (by rw [hy301]; exact of5))
  have CR1 := Aside0.mk (read_none (l := y318) (by rw [hy318]; exact b_lit _ (by decide)) (by rw [hy318]; decide) (by rw [hy318]; exact read1))
  have CR2 := Aside0.mk (read_none (l := y325) (by rw [hy325]; exact b_lit _ (by decide)) (by rw [hy325]; decide) (by rw [hy325]; exact read2))
  have CE1 := Aside0.mk (fun (W : World) (A : Option Addr) (c : Nat) (B : Option Addr) (d : Nat) (h1 : Kd.C (Kd.int .u8) W A y332.length y332) (h2 : y332.length ≤ c) (h3 : Kd.C (Kd.int .u8) W B y335.length y335) (h4 : y335.length ≤ d) => entry_call h1 h2 h3 h4)
  rw [show (if entryOk y332 y335 = true then entryB y332 y335 else []) = xe by rw [hy332, hy335, hxe]; exact if_pos ent1, show (if entryOk y332 y335 = true then (0 : Int) else 2) = 0 by rw [hy332, hy335]; exact if_pos ent1] at CE1
  have CE2 : Aside0 (∀ (W : World) (B : Option Addr) (d : Nat) (h3 : Kd.C (Kd.int .u8) W B y342.length y342) (h4 : y342.length ≤ d), Calls Try.prog 15 #[.slice none 0 0, .slice B y342.length d] W (RowPost .u8 [] 2 W)) := Aside0.mk (fun (W : World) (B : Option Addr) (d : Nat) (h3 : Kd.C (Kd.int .u8) W B y342.length y342) (h4 : y342.length ≤ d) => by
    have h := entry_call (A := none) (c := 0) (f := []) (Kd.C_nil _ W) (Nat.le_refl _) h3 h4
    have h0 : entryOk [] y342 = false := by rw [hy342]; exact ent2
    rw [h0] at h
    exact h)
  have CS1 := Aside0.mk (fun (W : World) (A : Option Addr) (c : Nat) (h1 : Kd.C (Kd.int .u8) W A y349.length y349) (h2 : y349.length ≤ c) => split_call h1 h2 (p := []) (q := []) (en := 4) (by rw [hy349]; exact split_none (b_lit _ (by decide)) (by decide) spl1))
  have CS2 := Aside0.mk (fun (W : World) (A : Option Addr) (c : Nat) (h1 : Kd.C (Kd.int .u8) W A y359.length y359) (h2 : y359.length ≤ c) => split_call h1 h2 (p := []) (q := []) (en := 4) (by rw [hy359]; exact split_none (b_lit _ (by decide)) (by decide) spl2))
  have CSM := Aside0.mk (fun (W : World) (A : Option Addr) (c : Nat) (B : Option Addr) (d : Nat) (h1 : Kd.C (Kd.slice 5 (Kd.int .u8)) W A y251.length y251) (h2 : y251.length ≤ c) (h3 : Kd.C (Kd.slice 5 (Kd.int .u8)) W B y251.length y251) (h4 : y251.length ≤ d) => same_call h1 h2 h3 h4 (by rw [e251]; exact full_byts) (by rw [e251]; exact full_byts) (by omega) true (by simp))
  have CK1 := Aside0.mk (fun (W : World) (A : Option Addr) (c : Nat) (h1 : Kd.C (Kd.int .u8) W A y386.length y386) (h2 : y386.length ≤ c) => mayKey_call h1 h2)
  rw [show mayK y386 = true by rw [hy386]; exact key1] at CK1
  have CK2 := Aside0.mk (fun (W : World) (A : Option Addr) (c : Nat) (h1 : Kd.C (Kd.int .u8) W A y390.length y390) (h2 : y390.length ≤ c) => mayKey_call h1 h2)
  rw [show mayK y390 = false by rw [hy390]; exact key2] at CK2
  have CKN : Aside0 (∀ W : World, Calls Try.prog 19 #[.slice none 0 0] W fun e w' => e = .returned (.bool false) ∧ Drawn0 W w') := Aside0.mk (fun (W : World) => by
    have h := mayKey_call (A := none) (c := 0) (k := []) (Kd.C_nil _ W) (Nat.le_refl _)
    rw [keyN] at h
    exact h)
  have CS0 : Aside0 (∀ (W : World) (B : Option Addr) (d : Nat) (h3 : Kd.C (Kd.slice 5 (Kd.int .u8)) W B y395.length y395) (h4 : y395.length ≤ d), Calls Try.prog 23 #[.slice none 0 0, .slice B y395.length d] W fun e w' => e = .returned (.bool true) ∧ Drawn0 W w') := Aside0.mk (fun (W : World) (B : Option Addr) (d : Nat) (h3 : Kd.C (Kd.slice 5 (Kd.int .u8)) W B y395.length y395) (h4 : y395.length ≤ d) => rowSame_call (A := none) (c := 0) (a := []) (Kd.C_nil _ W) (Nat.le_refl _) h3 h4 byts_nil (by rw [hy395]; exact byts_nil) true (by rw [hy395]; rfl))
  have CS4 := Aside0.mk (fun (W : World) (A : Option Addr) (c : Nat) (B : Option Addr) (d : Nat) (h1 : Kd.C (Kd.slice 5 (Kd.int .u8)) W A y251.length y251) (h2 : y251.length ≤ c) (h3 : Kd.C (Kd.slice 5 (Kd.int .u8)) W B y311.length y311) (h4 : y311.length ≤ d) => rowSame_call h1 h2 h3 h4 (by rw [e251]; exact full_byts) (by rw [e311]; exact four_byts) false (by rw [e251, e311]; exact full_four.symm))
  have HXW := Aside0.mk (show xw.length ≤ 11 by omega)
  have HX266 := Aside0.mk (show y266.length ≤ 11 by rw [hy266]; simp; omega)
  have HX251 := Aside0.mk (show y251.length ≤ 3 by omega)
  have HX308 := Aside0.mk (show y308.length ≤ 3 by rw [hy308]; simp; omega)
  have g76 : ((xb.length : Int) == 76) = true := by rw [lxb]; rfl
  have g11 : ((xw.length : Int) == 11) = true := by rw [lxw]; rfl
  have g82 : ((xe.length : Int) == 82) = true := by rw [lxe]; rfl
  have c1b0 := eq_true (show 24 ≤ 281474976710656 by omega)
  have c1b1 : decide (24 ≤ 281474976710656) = true := by decide
  have Ny242 := Aside0.mk hy242
  have Ny245 := Aside0.mk hy245
  have Ny248 := Aside0.mk hy248
  have Ny251 := Aside0.mk hy251
  have Ny332 := Aside0.mk hy332
  have Ny335 := Aside0.mk hy335
  have Ny342 := Aside0.mk hy342
  have Ny386 := Aside0.mk hy386
  have Ny390 := Aside0.mk hy390
  have Ny280 := Aside0.mk hy280
  have Ny287 := Aside0.mk hy287
  have Ny294 := Aside0.mk hy294
  have Ny301 := Aside0.mk hy301
  have Ny318 := Aside0.mk hy318
  have Ny325 := Aside0.mk hy325
  have Ny349 := Aside0.mk hy349
  have Ny359 := Aside0.mk hy359
  have Ny395 := Aside0.mk hy395
  have Ny266 := Aside0.mk hy266
  have Ny269 := Aside0.mk hy269
  have Ny308 := Aside0.mk hy308
  have Ny311 := Aside0.mk hy311
  clear e251 e311 lxb lxw lxe l251 hxw hxb hxe hy242 hy245 hy248 hy251 hy332 hy335 hy342 hy386 hy390 hy280 hy287 hy294 hy301 hy318 hy325 hy349 hy359 hy395 hy266 hy269 hy308 hy311
  go_enter Try.func9, Try.ntmps9
  try go_wp2
  have n0_ := Aside0.mk (below_drew1 HB.out)
  clear HB
  have HB := n0_
  clear n0_
  refine start_ (n := 5) (S := fun w' => True) (ds := []) #[false, false, false, false, false] (by kernel_rfl) rfl rfl trivial (fun hHeld => ?_)
  generalize w.drew = w69 at HB hHeld ⊢
  refine join_ (σ := Value × Value × Value) 2 #[true, true, true, false, false] (fun s_ => [(37, s_.1), (38, s_.2.1), (39, s_.2.2)]) (fun s_ w' => (Kd.R (Kd.int .u8) 5 w' w.heap.size (fun k_ => some k_ ≠ (s_.2.1 : Value).ownBlock ∧ some k_ ≠ (s_.2.2 : Value).ownBlock) s_.1 y242) ∧ (Kd.R (Kd.int .u8) 5 w' w.heap.size (fun k_ => some k_ ≠ (s_.1 : Value).ownBlock ∧ some k_ ≠ (s_.2.2 : Value).ownBlock) s_.2.1 y245) ∧ (Kd.R (Kd.int .u8) 5 w' w.heap.size (fun k_ => some k_ ≠ (s_.1 : Value).ownBlock ∧ some k_ ≠ (s_.2.1 : Value).ownBlock) s_.2.2 y248) ∧ (Below w.heap.size w w')) ?_ ?_
  rotate_left
  · intro hJ0_1_2
    refine join_ (σ := Value × Value) 3 #[true, true, false, false, false] (fun s_ => [(37, s_.1), (38, s_.2)]) (fun s_ w' => (Kd.R (Kd.int .u8) 5 w' w.heap.size (fun k_ => some k_ ≠ (s_.2 : Value).ownBlock) s_.1 y242) ∧ (Kd.R (Kd.int .u8) 5 w' w.heap.size (fun k_ => some k_ ≠ (s_.1 : Value).ownBlock) s_.2 y245) ∧ (Below w.heap.size w w')) ?_ ?_
    rotate_left
    · intro hJ0_1
      refine join_ (σ := Value × Value) 3 #[true, false, true, false, false] (fun s_ => [(37, s_.1), (39, s_.2)]) (fun s_ w' => (Kd.R (Kd.int .u8) 5 w' w.heap.size (fun k_ => some k_ ≠ (s_.2 : Value).ownBlock) s_.1 y242) ∧ (Kd.R (Kd.int .u8) 5 w' w.heap.size (fun k_ => some k_ ≠ (s_.1 : Value).ownBlock) s_.2 y248) ∧ (Below w.heap.size w w')) ?_ ?_
      rotate_left
      · intro hJ0_2
        refine join_ (σ := Value × Value) 3 #[false, true, true, false, false] (fun s_ => [(38, s_.1), (39, s_.2)]) (fun s_ w' => (Kd.R (Kd.int .u8) 5 w' w.heap.size (fun k_ => some k_ ≠ (s_.2 : Value).ownBlock) s_.1 y245) ∧ (Kd.R (Kd.int .u8) 5 w' w.heap.size (fun k_ => some k_ ≠ (s_.1 : Value).ownBlock) s_.2 y248) ∧ (Below w.heap.size w w')) ?_ ?_
        rotate_left
        · intro hJ1_2
          refine join_ (σ := Value) 4 #[true, false, false, false, false] (fun s_ => [(37, s_)]) (fun s_ w' => (Kd.R (Kd.int .u8) 5 w' w.heap.size (fun _ => True) s_ y242) ∧ (Below w.heap.size w w')) ?_ ?_
          rotate_left
          · intro hJ0
            refine join_ (σ := Value) 4 #[false, true, false, false, false] (fun s_ => [(38, s_)]) (fun s_ w' => (Kd.R (Kd.int .u8) 5 w' w.heap.size (fun _ => True) s_ y245) ∧ (Below w.heap.size w w')) ?_ ?_
            rotate_left
            · intro hJ1
              refine join_ (σ := Value) 4 #[false, false, true, false, false] (fun s_ => [(39, s_)]) (fun s_ w' => (Kd.R (Kd.int .u8) 5 w' w.heap.size (fun _ => True) s_ y248) ∧ (Below w.heap.size w w')) ?_ ?_
              rotate_left
              · intro hJ2
                refine three_ (i := 0) (j := 1) (k := 2) (Ni := some 37) (Nj := some 38) (Nk := some 39) #[true, false, false, false, false] #[false, true, false, false, false] #[false, false, true, false, false] rfl rfl rfl rfl rfl rfl (by kernel_rfl) (by decide) (by decide) (by decide) (fun K hK => ?_) (fun K hK => ?_) (fun K hK => ?_)
                · skip
                  refine Kd.R_make_step (Kd.int .u8) _ 5 (by rfl) (N := 37) rfl 22 _ _ rfl 24 rfl rfl Try.underlying22 (.int .u8 0) 1 info5 rfl (by decide) (by omega) 0 (ok := fun _ => True) (okp := fun _ => True) rfl (fun _ hk => hk) trivial (by omega) (by omega) (Below.refl _ _) (Nat.le_refl _) ?_
                  intro v243 w70 ho71 hb hg_ hnew_
                  clear hg_ hnew_
                  (try simp only [Int.reduceToNat] at ho71); rw [← Ny242.out] at ho71
                  have n0_ := Aside0.mk (Kd.R_lower ho71 (below_size HB.out))
                  have n1_ := Aside0.mk (below_step HB.out hb)
                  clear HB
                  have HO244 := n0_
                  have HB := n1_
                  clear n0_ n1_
                  clear hb ho71
                  refine hK.out _ _ trivial (fun hHeld => ?_)
                  clear hK K
                  refine norm_ (a' := ?_) ?_ ?_
                  rotate_left
                  · show Act.put _ (some 37) _ = _
                    simp only [Act.put, List.setIfInBounds_toArray, List.set_cons_zero, List.set_cons_succ, i64_w, i32_w]
                    rfl
                  exact norm_ (by simp only [putAll, Act.put, List.setIfInBounds_toArray, List.set_cons_zero, List.set_cons_succ]) (hJ0 (v243) _ ⟨HO244.out, HB.out⟩)
                · skip
                  refine Kd.R_make_step (Kd.int .u8) _ 5 (by rfl) (N := 38) rfl 22 _ _ rfl 24 rfl rfl Try.underlying22 (.int .u8 0) 1 info5 rfl (by decide) (by omega) 0 (ok := fun _ => True) (okp := fun _ => True) rfl (fun _ hk => hk) trivial (by omega) (by omega) (Below.refl _ _) (Nat.le_refl _) ?_
                  intro v246 w70 ho71 hb hg_ hnew_
                  clear hg_ hnew_
                  (try simp only [Int.reduceToNat] at ho71); rw [← Ny245.out] at ho71
                  have n0_ := Aside0.mk (Kd.R_lower ho71 (below_size HB.out))
                  have n1_ := Aside0.mk (below_step HB.out hb)
                  clear HB
                  have HO247 := n0_
                  have HB := n1_
                  clear n0_ n1_
                  clear hb ho71
                  refine hK.out _ _ trivial (fun hHeld => ?_)
                  clear hK K
                  refine norm_ (a' := ?_) ?_ ?_
                  rotate_left
                  · show Act.put _ (some 38) _ = _
                    simp only [Act.put, List.setIfInBounds_toArray, List.set_cons_zero, List.set_cons_succ, i64_w, i32_w]
                    rfl
                  exact norm_ (by simp only [putAll, Act.put, List.setIfInBounds_toArray, List.set_cons_zero, List.set_cons_succ]) (hJ1 (v246) _ ⟨HO247.out, HB.out⟩)
                · skip
                  refine Kd.R_make_step (Kd.int .u8) _ 5 (by rfl) (N := 39) rfl 22 _ _ rfl 24 rfl rfl Try.underlying22 (.int .u8 0) 1 info5 rfl (by decide) (by omega) 0 (ok := fun _ => True) (okp := fun _ => True) rfl (fun _ hk => hk) trivial (by omega) (by omega) (Below.refl _ _) (Nat.le_refl _) ?_
                  intro v249 w70 ho71 hb hg_ hnew_
                  clear hg_ hnew_
                  (try simp only [Int.reduceToNat] at ho71); rw [← Ny248.out] at ho71
                  have n0_ := Aside0.mk (Kd.R_lower ho71 (below_size HB.out))
                  have n1_ := Aside0.mk (below_step HB.out hb)
                  clear HB
                  have HO250 := n0_
                  have HB := n1_
                  clear n0_ n1_
                  clear hb ho71
                  refine hK.out _ _ trivial (fun hHeld => ?_)
                  clear hK K
                  refine norm_ (a' := ?_) ?_ ?_
                  rotate_left
                  · show Act.put _ (some 39) _ = _
                    simp only [Act.put, List.setIfInBounds_toArray, List.set_cons_zero, List.set_cons_succ, i64_w, i32_w]
                    rfl
                  exact norm_ (by simp only [putAll, Act.put, List.setIfInBounds_toArray, List.set_cons_zero, List.set_cons_succ]) (hJ2 (v249) _ ⟨HO250.out, HB.out⟩)
              · skip
                rintro v249 w72 ⟨h0_, h1_⟩
                have n0_ : Aside0 (Kd.R (Kd.int .u8) 5 w72 w.heap.size (fun _ => True) v249 y248) := ⟨h0_⟩
                have n1_ : Aside0 (Below w.heap.size w w72) := ⟨h1_⟩
                clear HB
                clear h0_ h1_
                have HO250 := n0_
                have HB := n1_
                clear n0_ n1_
                have hHeld := trivial
                refine norm_ (a' := ?_) ?_ ?_
                rotate_left
                · simp only [putAll, Act.put, List.setIfInBounds_toArray, List.set_cons_zero, List.set_cons_succ]
                  rfl
                refine two_ (i := 0) (j := 1) (Ni := some 37) (Nj := some 38) #[true, false, true, false, false] #[false, true, true, false, false] rfl rfl rfl rfl (by kernel_rfl) (by decide) (by decide) (fun K hK => ?_) (fun K hK => ?_)
                · skip
                  refine Kd.R_make_step (Kd.int .u8) _ 5 (by rfl) (N := 37) rfl 22 _ _ rfl 24 rfl rfl Try.underlying22 (.int .u8 0) 1 info5 rfl (by decide) (by omega) 0 (ok := fun _ => True) (okp := fun _ => True) rfl (fun _ hk => hk) trivial (by omega) (by omega) (Below.refl _ _) (Nat.le_refl _) ?_
                  intro v243 w73 ho74 hb hg_ hnew_
                  clear hg_ hnew_
                  (try simp only [Int.reduceToNat] at ho74); rw [← Ny242.out] at ho74
                  have n0_ := Aside0.mk (Kd.R_elder' HO250.out (Kd.R_base ho74) hb)
                  have n1_ := Aside0.mk (Kd.R_lower (Kd.R_new' ho74 (Kd.R_lt HO250.out)) (below_size HB.out))
                  have n2_ := Aside0.mk (below_step HB.out hb)
                  clear HO250
                  clear HB
                  have HO250 := n0_
                  have HO244 := n1_
                  have HB := n2_
                  clear n0_ n1_ n2_
                  clear hb ho74
                  refine hK.out _ _ trivial (fun hHeld => ?_)
                  clear hK K
                  refine norm_ (a' := ?_) ?_ ?_
                  rotate_left
                  · show Act.put _ (some 37) _ = _
                    simp only [Act.put, List.setIfInBounds_toArray, List.set_cons_zero, List.set_cons_succ, i64_w, i32_w]
                    rfl
                  exact norm_ (by simp only [putAll, Act.put, List.setIfInBounds_toArray, List.set_cons_zero, List.set_cons_succ]) (hJ0_2 (v243, v249) _ ⟨(by (with_reducible repeat (first | apply Kd.R_alloc | apply Kd.R_drewN | apply Kd.R_drew)); exact Kd.R_mono HO244.out (fun _ hk => hk.2)), (by (with_reducible repeat (first | apply Kd.R_alloc | apply Kd.R_drewN | apply Kd.R_drew)); exact Kd.R_mono HO250.out (fun _ hk => hk.2)), HB.out⟩)
                · skip
                  refine Kd.R_make_step (Kd.int .u8) _ 5 (by rfl) (N := 38) rfl 22 _ _ rfl 24 rfl rfl Try.underlying22 (.int .u8 0) 1 info5 rfl (by decide) (by omega) 0 (ok := fun _ => True) (okp := fun _ => True) rfl (fun _ hk => hk) trivial (by omega) (by omega) (Below.refl _ _) (Nat.le_refl _) ?_
                  intro v246 w73 ho74 hb hg_ hnew_
                  clear hg_ hnew_
                  (try simp only [Int.reduceToNat] at ho74); rw [← Ny245.out] at ho74
                  have n0_ := Aside0.mk (Kd.R_elder' HO250.out (Kd.R_base ho74) hb)
                  have n1_ := Aside0.mk (Kd.R_lower (Kd.R_new' ho74 (Kd.R_lt HO250.out)) (below_size HB.out))
                  have n2_ := Aside0.mk (below_step HB.out hb)
                  clear HO250
                  clear HB
                  have HO250 := n0_
                  have HO247 := n1_
                  have HB := n2_
                  clear n0_ n1_ n2_
                  clear hb ho74
                  refine hK.out _ _ trivial (fun hHeld => ?_)
                  clear hK K
                  refine norm_ (a' := ?_) ?_ ?_
                  rotate_left
                  · show Act.put _ (some 38) _ = _
                    simp only [Act.put, List.setIfInBounds_toArray, List.set_cons_zero, List.set_cons_succ, i64_w, i32_w]
                    rfl
                  exact norm_ (by simp only [putAll, Act.put, List.setIfInBounds_toArray, List.set_cons_zero, List.set_cons_succ]) (hJ1_2 (v246, v249) _ ⟨(by (with_reducible repeat (first | apply Kd.R_alloc | apply Kd.R_drewN | apply Kd.R_drew)); exact Kd.R_mono HO247.out (fun _ hk => hk.2)), (by (with_reducible repeat (first | apply Kd.R_alloc | apply Kd.R_drewN | apply Kd.R_drew)); exact Kd.R_mono HO250.out (fun _ hk => hk.2)), HB.out⟩)
            · skip
              rintro v246 w72 ⟨h0_, h1_⟩
              have n0_ : Aside0 (Kd.R (Kd.int .u8) 5 w72 w.heap.size (fun _ => True) v246 y245) := ⟨h0_⟩
              have n1_ : Aside0 (Below w.heap.size w w72) := ⟨h1_⟩
              clear HB
              clear h0_ h1_
              have HO247 := n0_
              have HB := n1_
              clear n0_ n1_
              have hHeld := trivial
              refine norm_ (a' := ?_) ?_ ?_
              rotate_left
              · simp only [putAll, Act.put, List.setIfInBounds_toArray, List.set_cons_zero, List.set_cons_succ]
                rfl
              refine two_ (i := 0) (j := 2) (Ni := some 37) (Nj := some 39) #[true, true, false, false, false] #[false, true, true, false, false] rfl rfl rfl rfl (by kernel_rfl) (by decide) (by decide) (fun K hK => ?_) (fun K hK => ?_)
              · skip
                refine Kd.R_make_step (Kd.int .u8) _ 5 (by rfl) (N := 37) rfl 22 _ _ rfl 24 rfl rfl Try.underlying22 (.int .u8 0) 1 info5 rfl (by decide) (by omega) 0 (ok := fun _ => True) (okp := fun _ => True) rfl (fun _ hk => hk) trivial (by omega) (by omega) (Below.refl _ _) (Nat.le_refl _) ?_
                intro v243 w73 ho74 hb hg_ hnew_
                clear hg_ hnew_
                (try simp only [Int.reduceToNat] at ho74); rw [← Ny242.out] at ho74
                have n0_ := Aside0.mk (Kd.R_elder' HO247.out (Kd.R_base ho74) hb)
                have n1_ := Aside0.mk (Kd.R_lower (Kd.R_new' ho74 (Kd.R_lt HO247.out)) (below_size HB.out))
                have n2_ := Aside0.mk (below_step HB.out hb)
                clear HO247
                clear HB
                have HO247 := n0_
                have HO244 := n1_
                have HB := n2_
                clear n0_ n1_ n2_
                clear hb ho74
                refine hK.out _ _ trivial (fun hHeld => ?_)
                clear hK K
                refine norm_ (a' := ?_) ?_ ?_
                rotate_left
                · show Act.put _ (some 37) _ = _
                  simp only [Act.put, List.setIfInBounds_toArray, List.set_cons_zero, List.set_cons_succ, i64_w, i32_w]
                  rfl
                exact norm_ (by simp only [putAll, Act.put, List.setIfInBounds_toArray, List.set_cons_zero, List.set_cons_succ]) (hJ0_1 (v243, v246) _ ⟨(by (with_reducible repeat (first | apply Kd.R_alloc | apply Kd.R_drewN | apply Kd.R_drew)); exact Kd.R_mono HO244.out (fun _ hk => hk.2)), (by (with_reducible repeat (first | apply Kd.R_alloc | apply Kd.R_drewN | apply Kd.R_drew)); exact Kd.R_mono HO247.out (fun _ hk => hk.2)), HB.out⟩)
              · skip
                refine Kd.R_make_step (Kd.int .u8) _ 5 (by rfl) (N := 39) rfl 22 _ _ rfl 24 rfl rfl Try.underlying22 (.int .u8 0) 1 info5 rfl (by decide) (by omega) 0 (ok := fun _ => True) (okp := fun _ => True) rfl (fun _ hk => hk) trivial (by omega) (by omega) (Below.refl _ _) (Nat.le_refl _) ?_
                intro v249 w73 ho74 hb hg_ hnew_
                clear hg_ hnew_
                (try simp only [Int.reduceToNat] at ho74); rw [← Ny248.out] at ho74
                have n0_ := Aside0.mk (Kd.R_elder' HO247.out (Kd.R_base ho74) hb)
                have n1_ := Aside0.mk (Kd.R_lower (Kd.R_new' ho74 (Kd.R_lt HO247.out)) (below_size HB.out))
                have n2_ := Aside0.mk (below_step HB.out hb)
                clear HO247
                clear HB
                have HO247 := n0_
                have HO250 := n1_
                have HB := n2_
                clear n0_ n1_ n2_
                clear hb ho74
                refine hK.out _ _ trivial (fun hHeld => ?_)
                clear hK K
                refine norm_ (a' := ?_) ?_ ?_
                rotate_left
                · show Act.put _ (some 39) _ = _
                  simp only [Act.put, List.setIfInBounds_toArray, List.set_cons_zero, List.set_cons_succ, i64_w, i32_w]
                  rfl
                exact norm_ (by simp only [putAll, Act.put, List.setIfInBounds_toArray, List.set_cons_zero, List.set_cons_succ]) (hJ1_2 (v246, v249) _ ⟨(by (with_reducible repeat (first | apply Kd.R_alloc | apply Kd.R_drewN | apply Kd.R_drew)); exact Kd.R_mono HO247.out (fun _ hk => hk.2)), (by (with_reducible repeat (first | apply Kd.R_alloc | apply Kd.R_drewN | apply Kd.R_drew)); exact Kd.R_mono HO250.out (fun _ hk => hk.2)), HB.out⟩)
          · skip
            rintro v243 w72 ⟨h0_, h1_⟩
            have n0_ : Aside0 (Kd.R (Kd.int .u8) 5 w72 w.heap.size (fun _ => True) v243 y242) := ⟨h0_⟩
            have n1_ : Aside0 (Below w.heap.size w w72) := ⟨h1_⟩
            clear HB
            clear h0_ h1_
            have HO244 := n0_
            have HB := n1_
            clear n0_ n1_
            have hHeld := trivial
            refine norm_ (a' := ?_) ?_ ?_
            rotate_left
            · simp only [putAll, Act.put, List.setIfInBounds_toArray, List.set_cons_zero, List.set_cons_succ]
              rfl
            refine two_ (i := 1) (j := 2) (Ni := some 38) (Nj := some 39) #[true, true, false, false, false] #[true, false, true, false, false] rfl rfl rfl rfl (by kernel_rfl) (by decide) (by decide) (fun K hK => ?_) (fun K hK => ?_)
            · skip
              refine Kd.R_make_step (Kd.int .u8) _ 5 (by rfl) (N := 38) rfl 22 _ _ rfl 24 rfl rfl Try.underlying22 (.int .u8 0) 1 info5 rfl (by decide) (by omega) 0 (ok := fun _ => True) (okp := fun _ => True) rfl (fun _ hk => hk) trivial (by omega) (by omega) (Below.refl _ _) (Nat.le_refl _) ?_
              intro v246 w73 ho74 hb hg_ hnew_
              clear hg_ hnew_
              (try simp only [Int.reduceToNat] at ho74); rw [← Ny245.out] at ho74
              have n0_ := Aside0.mk (Kd.R_elder' HO244.out (Kd.R_base ho74) hb)
              have n1_ := Aside0.mk (Kd.R_lower (Kd.R_new' ho74 (Kd.R_lt HO244.out)) (below_size HB.out))
              have n2_ := Aside0.mk (below_step HB.out hb)
              clear HO244
              clear HB
              have HO244 := n0_
              have HO247 := n1_
              have HB := n2_
              clear n0_ n1_ n2_
              clear hb ho74
              refine hK.out _ _ trivial (fun hHeld => ?_)
              clear hK K
              refine norm_ (a' := ?_) ?_ ?_
              rotate_left
              · show Act.put _ (some 38) _ = _
                simp only [Act.put, List.setIfInBounds_toArray, List.set_cons_zero, List.set_cons_succ, i64_w, i32_w]
                rfl
              exact norm_ (by simp only [putAll, Act.put, List.setIfInBounds_toArray, List.set_cons_zero, List.set_cons_succ]) (hJ0_1 (v243, v246) _ ⟨(by (with_reducible repeat (first | apply Kd.R_alloc | apply Kd.R_drewN | apply Kd.R_drew)); exact Kd.R_mono HO244.out (fun _ hk => hk.2)), (by (with_reducible repeat (first | apply Kd.R_alloc | apply Kd.R_drewN | apply Kd.R_drew)); exact Kd.R_mono HO247.out (fun _ hk => hk.2)), HB.out⟩)
            · skip
              refine Kd.R_make_step (Kd.int .u8) _ 5 (by rfl) (N := 39) rfl 22 _ _ rfl 24 rfl rfl Try.underlying22 (.int .u8 0) 1 info5 rfl (by decide) (by omega) 0 (ok := fun _ => True) (okp := fun _ => True) rfl (fun _ hk => hk) trivial (by omega) (by omega) (Below.refl _ _) (Nat.le_refl _) ?_
              intro v249 w73 ho74 hb hg_ hnew_
              clear hg_ hnew_
              (try simp only [Int.reduceToNat] at ho74); rw [← Ny248.out] at ho74
              have n0_ := Aside0.mk (Kd.R_elder' HO244.out (Kd.R_base ho74) hb)
              have n1_ := Aside0.mk (Kd.R_lower (Kd.R_new' ho74 (Kd.R_lt HO244.out)) (below_size HB.out))
              have n2_ := Aside0.mk (below_step HB.out hb)
              clear HO244
              clear HB
              have HO244 := n0_
              have HO250 := n1_
              have HB := n2_
              clear n0_ n1_ n2_
              clear hb ho74
              refine hK.out _ _ trivial (fun hHeld => ?_)
              clear hK K
              refine norm_ (a' := ?_) ?_ ?_
              rotate_left
              · show Act.put _ (some 39) _ = _
                simp only [Act.put, List.setIfInBounds_toArray, List.set_cons_zero, List.set_cons_succ, i64_w, i32_w]
                rfl
              exact norm_ (by simp only [putAll, Act.put, List.setIfInBounds_toArray, List.set_cons_zero, List.set_cons_succ]) (hJ0_2 (v243, v249) _ ⟨(by (with_reducible repeat (first | apply Kd.R_alloc | apply Kd.R_drewN | apply Kd.R_drew)); exact Kd.R_mono HO244.out (fun _ hk => hk.2)), (by (with_reducible repeat (first | apply Kd.R_alloc | apply Kd.R_drewN | apply Kd.R_drew)); exact Kd.R_mono HO250.out (fun _ hk => hk.2)), HB.out⟩)
        · skip
          rintro ⟨v246, v249⟩ w74 ⟨h0_, h1_, h2_⟩
          have n0_ : Aside0 (Kd.R (Kd.int .u8) 5 w74 w.heap.size (fun k_ => some k_ ≠ (v249 : Value).ownBlock) v246 y245) := ⟨h0_⟩
          have n1_ : Aside0 (Kd.R (Kd.int .u8) 5 w74 w.heap.size (fun k_ => some k_ ≠ (v246 : Value).ownBlock) v249 y248) := ⟨h1_⟩
          have n2_ : Aside0 (Below w.heap.size w w74) := ⟨h2_⟩
          clear HB
          clear h0_ h1_ h2_
          have HO247 := n0_
          have HO250 := n1_
          have HB := n2_
          clear n0_ n1_ n2_
          have hHeld := trivial
          refine norm_ (a' := ?_) ?_ ?_
          rotate_left
          · simp only [putAll, Act.put, List.setIfInBounds_toArray, List.set_cons_zero, List.set_cons_succ]
            rfl
          refine one_ (i := 0) (N := some 37) #[true, true, true, false, false] rfl rfl (by kernel_rfl) (by decide) (fun K hK => ?_)
          refine Kd.R_make_step (Kd.int .u8) _ 5 (by rfl) (N := 37) rfl 22 _ _ rfl 24 rfl rfl Try.underlying22 (.int .u8 0) 1 info5 rfl (by decide) (by omega) 0 (ok := fun _ => True) (okp := fun _ => True) rfl (fun _ hk => hk) trivial (by omega) (by omega) (Below.refl _ _) (Nat.le_refl _) ?_
          intro v243 w75 ho76 hb hg_ hnew_
          clear hg_ hnew_
          (try simp only [Int.reduceToNat] at ho76); rw [← Ny242.out] at ho76
          have n0_ := Aside0.mk (Kd.R_elder' HO247.out (Kd.R_base ho76) hb)
          have n1_ := Aside0.mk (Kd.R_elder' HO250.out (Kd.R_base ho76) hb)
          have n2_ := Aside0.mk (Kd.R_lower (Kd.R_new' (Kd.R_new' ho76 (Kd.R_lt HO247.out)) (Kd.R_lt HO250.out)) (below_size HB.out))
          have n3_ := Aside0.mk (below_step HB.out hb)
          clear HO247
          clear HO250
          clear HB
          have HO247 := n0_
          have HO250 := n1_
          have HO244 := n2_
          have HB := n3_
          clear n0_ n1_ n2_ n3_
          clear hb ho76
          refine hK.out _ _ trivial (fun hHeld => ?_)
          clear hK K
          refine norm_ (a' := ?_) ?_ ?_
          rotate_left
          · show Act.put _ (some 37) _ = _
            simp only [Act.put, List.setIfInBounds_toArray, List.set_cons_zero, List.set_cons_succ, i64_w, i32_w]
            rfl
          exact norm_ (by simp only [putAll, Act.put, List.setIfInBounds_toArray, List.set_cons_zero, List.set_cons_succ]) (hJ0_1_2 (v243, v246, v249) _ ⟨(by (with_reducible repeat (first | apply Kd.R_alloc | apply Kd.R_drewN | apply Kd.R_drew)); exact Kd.R_mono HO244.out (fun _ hk => ⟨hk.1.2, hk.2⟩)), (by (with_reducible repeat (first | apply Kd.R_alloc | apply Kd.R_drewN | apply Kd.R_drew)); exact Kd.R_mono HO247.out (fun _ hk => ⟨hk.2, hk.1⟩)), (by (with_reducible repeat (first | apply Kd.R_alloc | apply Kd.R_drewN | apply Kd.R_drew)); exact Kd.R_mono HO250.out (fun _ hk => ⟨hk.2, hk.1⟩)), HB.out⟩)
      · skip
        rintro ⟨v243, v249⟩ w74 ⟨h0_, h1_, h2_⟩
        have n0_ : Aside0 (Kd.R (Kd.int .u8) 5 w74 w.heap.size (fun k_ => some k_ ≠ (v249 : Value).ownBlock) v243 y242) := ⟨h0_⟩
        have n1_ : Aside0 (Kd.R (Kd.int .u8) 5 w74 w.heap.size (fun k_ => some k_ ≠ (v243 : Value).ownBlock) v249 y248) := ⟨h1_⟩
        have n2_ : Aside0 (Below w.heap.size w w74) := ⟨h2_⟩
        clear HB
        clear h0_ h1_ h2_
        have HO244 := n0_
        have HO250 := n1_
        have HB := n2_
        clear n0_ n1_ n2_
        have hHeld := trivial
        refine norm_ (a' := ?_) ?_ ?_
        rotate_left
        · simp only [putAll, Act.put, List.setIfInBounds_toArray, List.set_cons_zero, List.set_cons_succ]
          rfl
        refine one_ (i := 1) (N := some 38) #[true, true, true, false, false] rfl rfl (by kernel_rfl) (by decide) (fun K hK => ?_)
        refine Kd.R_make_step (Kd.int .u8) _ 5 (by rfl) (N := 38) rfl 22 _ _ rfl 24 rfl rfl Try.underlying22 (.int .u8 0) 1 info5 rfl (by decide) (by omega) 0 (ok := fun _ => True) (okp := fun _ => True) rfl (fun _ hk => hk) trivial (by omega) (by omega) (Below.refl _ _) (Nat.le_refl _) ?_
        intro v246 w75 ho76 hb hg_ hnew_
        clear hg_ hnew_
        (try simp only [Int.reduceToNat] at ho76); rw [← Ny245.out] at ho76
        have n0_ := Aside0.mk (Kd.R_elder' HO244.out (Kd.R_base ho76) hb)
        have n1_ := Aside0.mk (Kd.R_elder' HO250.out (Kd.R_base ho76) hb)
        have n2_ := Aside0.mk (Kd.R_lower (Kd.R_new' (Kd.R_new' ho76 (Kd.R_lt HO244.out)) (Kd.R_lt HO250.out)) (below_size HB.out))
        have n3_ := Aside0.mk (below_step HB.out hb)
        clear HO244
        clear HO250
        clear HB
        have HO244 := n0_
        have HO250 := n1_
        have HO247 := n2_
        have HB := n3_
        clear n0_ n1_ n2_ n3_
        clear hb ho76
        refine hK.out _ _ trivial (fun hHeld => ?_)
        clear hK K
        refine norm_ (a' := ?_) ?_ ?_
        rotate_left
        · show Act.put _ (some 38) _ = _
          simp only [Act.put, List.setIfInBounds_toArray, List.set_cons_zero, List.set_cons_succ, i64_w, i32_w]
          rfl
        exact norm_ (by simp only [putAll, Act.put, List.setIfInBounds_toArray, List.set_cons_zero, List.set_cons_succ]) (hJ0_1_2 (v243, v246, v249) _ ⟨(by (with_reducible repeat (first | apply Kd.R_alloc | apply Kd.R_drewN | apply Kd.R_drew)); exact Kd.R_mono HO244.out (fun _ hk => ⟨hk.2, hk.1⟩)), (by (with_reducible repeat (first | apply Kd.R_alloc | apply Kd.R_drewN | apply Kd.R_drew)); exact Kd.R_mono HO247.out (fun _ hk => ⟨hk.1.2, hk.2⟩)), HO250.out, HB.out⟩)
    · skip
      rintro ⟨v243, v246⟩ w74 ⟨h0_, h1_, h2_⟩
      have n0_ : Aside0 (Kd.R (Kd.int .u8) 5 w74 w.heap.size (fun k_ => some k_ ≠ (v246 : Value).ownBlock) v243 y242) := ⟨h0_⟩
      have n1_ : Aside0 (Kd.R (Kd.int .u8) 5 w74 w.heap.size (fun k_ => some k_ ≠ (v243 : Value).ownBlock) v246 y245) := ⟨h1_⟩
      have n2_ : Aside0 (Below w.heap.size w w74) := ⟨h2_⟩
      clear HB
      clear h0_ h1_ h2_
      have HO244 := n0_
      have HO247 := n1_
      have HB := n2_
      clear n0_ n1_ n2_
      have hHeld := trivial
      refine norm_ (a' := ?_) ?_ ?_
      rotate_left
      · simp only [putAll, Act.put, List.setIfInBounds_toArray, List.set_cons_zero, List.set_cons_succ]
        rfl
      refine one_ (i := 2) (N := some 39) #[true, true, true, false, false] rfl rfl (by kernel_rfl) (by decide) (fun K hK => ?_)
      refine Kd.R_make_step (Kd.int .u8) _ 5 (by rfl) (N := 39) rfl 22 _ _ rfl 24 rfl rfl Try.underlying22 (.int .u8 0) 1 info5 rfl (by decide) (by omega) 0 (ok := fun _ => True) (okp := fun _ => True) rfl (fun _ hk => hk) trivial (by omega) (by omega) (Below.refl _ _) (Nat.le_refl _) ?_
      intro v249 w75 ho76 hb hg_ hnew_
      clear hg_ hnew_
      (try simp only [Int.reduceToNat] at ho76); rw [← Ny248.out] at ho76
      have n0_ := Aside0.mk (Kd.R_elder' HO244.out (Kd.R_base ho76) hb)
      have n1_ := Aside0.mk (Kd.R_elder' HO247.out (Kd.R_base ho76) hb)
      have n2_ := Aside0.mk (Kd.R_lower (Kd.R_new' (Kd.R_new' ho76 (Kd.R_lt HO244.out)) (Kd.R_lt HO247.out)) (below_size HB.out))
      have n3_ := Aside0.mk (below_step HB.out hb)
      clear HO244
      clear HO247
      clear HB
      have HO244 := n0_
      have HO247 := n1_
      have HO250 := n2_
      have HB := n3_
      clear n0_ n1_ n2_ n3_
      clear hb ho76
      refine hK.out _ _ trivial (fun hHeld => ?_)
      clear hK K
      refine norm_ (a' := ?_) ?_ ?_
      rotate_left
      · show Act.put _ (some 39) _ = _
        simp only [Act.put, List.setIfInBounds_toArray, List.set_cons_zero, List.set_cons_succ, i64_w, i32_w]
        rfl
      exact norm_ (by simp only [putAll, Act.put, List.setIfInBounds_toArray, List.set_cons_zero, List.set_cons_succ]) (hJ0_1_2 (v243, v246, v249) _ ⟨HO244.out, HO247.out, (by (with_reducible repeat (first | apply Kd.R_alloc | apply Kd.R_drewN | apply Kd.R_drew)); exact Kd.R_mono HO250.out (fun _ hk => ⟨hk.1.2, hk.2⟩)), HB.out⟩)
  rintro ⟨v243, v246, v249⟩ w76 ⟨h0_, h1_, h2_, h3_⟩
  have n0_ : Aside0 (Kd.R (Kd.int .u8) 5 w76 w.heap.size (fun k_ => some k_ ≠ (v246 : Value).ownBlock ∧ some k_ ≠ (v249 : Value).ownBlock) v243 y242) := ⟨h0_⟩
  have n1_ : Aside0 (Kd.R (Kd.int .u8) 5 w76 w.heap.size (fun k_ => some k_ ≠ (v243 : Value).ownBlock ∧ some k_ ≠ (v249 : Value).ownBlock) v246 y245) := ⟨h1_⟩
  have n2_ : Aside0 (Kd.R (Kd.int .u8) 5 w76 w.heap.size (fun k_ => some k_ ≠ (v243 : Value).ownBlock ∧ some k_ ≠ (v246 : Value).ownBlock) v249 y248) := ⟨h2_⟩
  have n3_ : Aside0 (Below w.heap.size w w76) := ⟨h3_⟩
  clear HB
  clear h0_ h1_ h2_ h3_
  have HO244 := n0_
  have HO247 := n1_
  have HO250 := n2_
  have HB := n3_
  clear n0_ n1_ n2_ n3_
  have hHeld := trivial
  obtain ⟨Ao77, co77, eo77⟩ := Kd.R_slice HO244.out
  subst eo77
  obtain ⟨Ao78, co78, eo78⟩ := Kd.R_slice HO247.out
  subst eo78
  obtain ⟨Ao79, co79, eo79⟩ := Kd.R_slice HO250.out
  subst eo79
  refine norm_ (a' := ?_) ?_ ?_
  rotate_left
  · simp only [putAll, Act.put, List.setIfInBounds_toArray, List.set_cons_zero, List.set_cons_succ]
    rfl
  refine one_ (i := 3) (N := some 40) #[true, true, true, true, false] rfl rfl (by kernel_rfl) (by decide) (fun K hK => ?_)
  refine Kd.N_lit_step (Kd.slice 5 (Kd.int .u8)) _ 22 ?hg (N' := 40) ?hd (xs := ([y242, y245, y248] : List (List Int))) (inner := [.slice Ao77 y242.length co77, .slice Ao78 y245.length co78, .slice Ao79 y248.length co79]) (ok := (fun _ => True)) (okp := (fun _ => True)) ?hr ?hp (fun _ hk => hk) ((show ∀ k_, w76.heap.size ≤ k_ → (fun _ => True) k_ from fun k_ hk => trivial) _ (Nat.le_refl _)) (Below.refl _ _) (Nat.le_refl _) (by simp) ?_; (case hd => rfl); (case hg => rfl); (case hr => first | (go_simp; done) | (go_simp; rfl)); (case hp => exact (Reps.one (show Kd.FK (Kd.slice 5 (Kd.int .u8)) _ _ y242 [.slice Ao77 y242.length co77] from (Kd.FK_slice_mk (Kd.R_reads' (Kd.R_mono (ok' := (fun _ => True)) (HO244.out) (fun k_ hk => trivial))).2.1 (Kd.R_F (Kd.R_mono (ok' := (fun _ => True)) (HO244.out) (fun k_ hk => trivial))))) (Reps.one (show Kd.FK (Kd.slice 5 (Kd.int .u8)) _ _ y245 [.slice Ao78 y245.length co78] from (Kd.FK_slice_mk (Kd.R_reads' (Kd.R_mono (ok' := (fun _ => True)) (HO247.out) (fun k_ hk => trivial))).2.1 (Kd.R_F (Kd.R_mono (ok' := (fun _ => True)) (HO247.out) (fun k_ hk => trivial))))) (Reps.one (show Kd.FK (Kd.slice 5 (Kd.int .u8)) _ _ y248 [.slice Ao79 y248.length co79] from (Kd.FK_slice_mk (Kd.R_reads' (Kd.R_mono (ok' := (fun _ => True)) (HO250.out) (fun k_ hk => trivial))).2.1 (Kd.R_F (Kd.R_mono (ok' := (fun _ => True)) (HO250.out) (fun k_ hk => trivial))))) (Reps.none _ _)))))
  intro v252 w80 ho81 hb hg_ hnew_
  clear hg_ hnew_
  (try simp only [Int.reduceToNat] at ho81); rw [← Ny251.out] at ho81
  have n0_ := Aside0.mk (Kd.N_lower ho81 (below_size HB.out))
  have n1_ := Aside0.mk (below_step HB.out hb)
  clear HB
  clear HO244
  clear HO247
  clear HO250
  have HO253 := n0_
  have HB := n1_
  clear n0_ n1_
  clear hb ho81
  refine hK.out _ _ trivial (fun hHeld => ?_)
  clear hK K
  refine norm_ (a' := ?_) ?_ ?_
  rotate_left
  · show Act.put _ (some 40) _ = _
    simp only [Act.put, List.setIfInBounds_toArray, List.set_cons_zero, List.set_cons_succ, i64_w, i32_w]
    rfl
  refine pure_ (i := 4) (N := some 1) (v := ?_) (a' := ?_) #[true, true, true, true, true] rfl rfl (by kernel_rfl) (fun _ _ _ h => h) (Or.inl ⟨by rfl, ?_⟩) ?_ ?_
  rotate_left
  · intro w'
    go_simp
    with_reducible rfl
  rotate_left
  · simp only [Act.put, List.setIfInBounds_toArray, List.set_cons_zero, List.set_cons_succ, i64_w, i32_w]
    rfl
  refine done_ (by kernel_rfl) ?_
  obtain ⟨Ao82, co82, eo82⟩ := Kd.N_slice HO253.out
  subst eo82
  have HB1 := HB
  have HN1 := HO253
  clear HB HO253
  go_wp2_with (first | (go_at_call 21; (with_reducible refine (CB.out _ _ _ (Kd.N_reads' HN1.out).2.2 (Kd.N_reads' HN1.out).2.1).mono ?_); rintro e w201 ⟨A201, c201, rfl, hc201, hC, hb⟩; have HB2 := Aside0.mk (below_step HB1.out hb); have HN2 := Aside0.mk (Kd.N_below HN1.out hb); clear HB1 HN1; clear hb; clear hC) | (go_at_call 22; (with_reducible refine (CW.out _ _ _ (Kd.N_reads' HN2.out).2.2 (Kd.N_reads' HN2.out).2.1).mono ?_); rintro e w202 ⟨A202, c202, rfl, hc202, hC, hb⟩; have HB3 := Aside0.mk (below_step HB2.out hb); have HN3 := Aside0.mk (Kd.N_below HN2.out hb); clear HB2 HN2; clear hb; have HW3 := Aside0.mk hC; clear hC) | (go_at_call 33; (with_reducible refine (CO0.out _ _ _ HW3.out hc202).mono ?_); rintro e w203 ⟨A203, c203, rfl, hc203, hC, hR, hb⟩; have HB4 := Aside0.mk (below_step HB3.out hb); have HN4 := Aside0.mk (Kd.N_below HN3.out hb); clear HB3 HN3; have HW4 := Aside0.mk (Kd.C_below HW3.out hb); clear HW3; clear hb; have HR4 := Aside0.mk hC; clear hC hR) | ((with_reducible refine gate_builtin (b := .append) (xs := #[.const (.slice none 0 0), .tmp 57]) rfl ?_); (try (refine gate_guard (by rfl) ?_; dsimp only)); at_builtin; refine Kd.R_append_rows (Kd.int .u64) (w0 := w203) w203.heap.size rfl (.const (.slice none 0 0)) (.tmp 57) 41 45 (.int .u64 0) 8 rfl Try.underlying41 info45 rfl (by decide) (by omega) (.slice none 0 0) ([] : List Int) xw _ _ _ (fun _ => True) (fun _ => False) rfl rfl ?aO ?aR (fun _ _ h => h) (fun _ h => h.elim) ?aF ?aB ?aS ?aL ?_; (case aR => exact HW4.out); (case aB => exact Below.refl _ _); (case aF => exact fun _ _ => trivial); (case aO => exact Kd.R_nil _ _ _ _ _); (case aS => exact Nat.le_refl _); (case aL => have := HXW.out; simp only [List.length_nil]; omega); intro va w204 hoa hba hg hat; clear hg hat; rw [← Ny266.out] at hoa; have HOA := Aside0.mk hoa; have HBA := Aside0.mk hba; clear hoa hba) | ((with_reducible refine gate_builtin (b := .append) (xs := #[.tmp 58, .tmp 59]) rfl ?_); (try (refine gate_guard (by rfl) ?_; dsimp only)); at_builtin; refine Kd.R_append (Kd.int .u64) (w0 := w203) w203.heap.size rfl (.tmp 58) (.tmp 59) 41 45 (.int .u64 0) 8 rfl Try.underlying41 info45 rfl (by decide) (by omega) va y266 0 [.int .u64 0] (fun _ => True) (fun _ => False) rfl rfl ?aP (fun _ hk => hk.elim) ?aF ?aO ?aB ?aS ?aL ?_; (case aP => exact rfl); (case aB => exact HBA.out); (case aF => exact fun _ _ => trivial); (case aO => exact HOA.out); (case aS => exact below_size HBA.out); (case aL => have := HX266.out; omega); intro vb w205 hob hb hg hat; clear hg hat; rw [← Ny269.out] at hob; obtain ⟨A205, c205, rfl, hc205, hC⟩ := Kd.R_reads hob; have HB5 := Aside0.mk (below_step HB4.out hb); have HN5 := Aside0.mk (Kd.N_below HN4.out hb); clear HB4 HN4; have HW5 := Aside0.mk (Kd.C_below HW4.out hb); clear HW4; have HR5 := Aside0.mk (Kd.C_below HR4.out hb); clear HR4; clear hb; have HL205 := Aside0.mk hC; clear hob hC HOA HBA HW5) | (go_at_call 33; (with_reducible refine (CO1.out _ _ _ HL205.out hc205).mono ?_); rintro e w206 ⟨A206, c206, rfl, hc206, hC, hR, hb⟩; have HB6 := Aside0.mk (below_step HB5.out hb); have HN6 := Aside0.mk (Kd.N_below HN5.out hb); clear HB5 HN5; have HR6 := Aside0.mk (Kd.C_below HR5.out hb); clear HR5; clear hb; clear hC hR) | (go_at_call 33; (with_reducible refine (CON.out _).mono ?_); rintro e w207 ⟨A207, c207, rfl, hc207, hC, hR, hb⟩; have HB7 := Aside0.mk (below_step HB6.out hb); have HN7 := Aside0.mk (Kd.N_below HN6.out hb); clear HB6 HN6; have HR7 := Aside0.mk (Kd.C_below HR6.out hb); clear HR6; clear hb; clear hC hR) | ((with_reducible refine gate_dst (N := 69) rfl ?_); (try (refine gate_guard (by rfl) ?_; dsimp only)); refine Kd.R_lit (Kd.int .u64) _ 45 ?hg (N := 69) ?hd (xs := ([3, 72445721642532865] : List Int)) (inner := [.int .u64 3, .int .u64 72445721642532865]) (ok := fun _ => True) (okp := fun _ => True) ?hr ?hp (fun _ hk => hk) trivial (Below.refl _ _) (Nat.le_refl _) (by simp) ?_; (case hd => rfl); (case hg => rfl); (case hr => first | (go_simp; done) | (go_simp; rfl)); (case hp => exact (Reps.one (show Kd.M (Kd.int .u64) _ _ _ 3 [.int .u64 3] from rfl) (Reps.one (show Kd.M (Kd.int .u64) _ _ _ 72445721642532865 [.int .u64 72445721642532865] from rfl) (Reps.none _ _)))); intro v_ w208 ho hb hg_ hnew_; clear hg_ hnew_; rw [← Ny280.out] at ho; obtain ⟨A208, c208, rfl, hc208, hC⟩ := Kd.R_reads ho; have HB8 := Aside0.mk (below_step HB7.out hb); have HN8 := Aside0.mk (Kd.N_below HN7.out hb); clear HB7 HN7; have HR8 := Aside0.mk (Kd.C_below HR7.out hb); clear HR7; clear hb; have HL208 := Aside0.mk hC; clear ho hC) | (go_at_call 33; (with_reducible refine (CO2.out _ _ _ HL208.out hc208).mono ?_); rintro e w209 ⟨A209, c209, rfl, hc209, hC, hR, hb⟩; have HB9 := Aside0.mk (below_step HB8.out hb); have HN9 := Aside0.mk (Kd.N_below HN8.out hb); clear HB8 HN8; have HR9 := Aside0.mk (Kd.C_below HR8.out hb); clear HR8; clear hb; clear hC hR) | ((with_reducible refine gate_dst (N := 74) rfl ?_); (try (refine gate_guard (by rfl) ?_; dsimp only)); refine Kd.R_lit (Kd.int .u64) _ 45 ?hg (N := 74) ?hd (xs := ([3, 72445721642532864, 0] : List Int)) (inner := [.int .u64 3, .int .u64 72445721642532864, .int .u64 0]) (ok := fun _ => True) (okp := fun _ => True) ?hr ?hp (fun _ hk => hk) trivial (Below.refl _ _) (Nat.le_refl _) (by simp) ?_; (case hd => rfl); (case hg => rfl); (case hr => first | (go_simp; done) | (go_simp; rfl)); (case hp => exact (Reps.one (show Kd.M (Kd.int .u64) _ _ _ 3 [.int .u64 3] from rfl) (Reps.one (show Kd.M (Kd.int .u64) _ _ _ 72445721642532864 [.int .u64 72445721642532864] from rfl) (Reps.one (show Kd.M (Kd.int .u64) _ _ _ 0 [.int .u64 0] from rfl) (Reps.none _ _))))); intro v_ w210 ho hb hg_ hnew_; clear hg_ hnew_; rw [← Ny287.out] at ho; obtain ⟨A210, c210, rfl, hc210, hC⟩ := Kd.R_reads ho; have HB10 := Aside0.mk (below_step HB9.out hb); have HN10 := Aside0.mk (Kd.N_below HN9.out hb); clear HB9 HN9; have HR10 := Aside0.mk (Kd.C_below HR9.out hb); clear HR9; clear hb; have HL210 := Aside0.mk hC; clear ho hC) | (go_at_call 33; (with_reducible refine (CO3.out _ _ _ HL210.out hc210).mono ?_); rintro e w211 ⟨A211, c211, rfl, hc211, hC, hR, hb⟩; have HB11 := Aside0.mk (below_step HB10.out hb); have HN11 := Aside0.mk (Kd.N_below HN10.out hb); clear HB10 HN10; have HR11 := Aside0.mk (Kd.C_below HR10.out hb); clear HR10; clear hb; clear hC hR) | ((with_reducible refine gate_dst (N := 79) rfl ?_); (try (refine gate_guard (by rfl) ?_; dsimp only)); refine Kd.R_lit (Kd.int .u64) _ 45 ?hg (N := 79) ?hd (xs := ([2, 72445721642532864] : List Int)) (inner := [.int .u64 2, .int .u64 72445721642532864]) (ok := fun _ => True) (okp := fun _ => True) ?hr ?hp (fun _ hk => hk) trivial (Below.refl _ _) (Nat.le_refl _) (by simp) ?_; (case hd => rfl); (case hg => rfl); (case hr => first | (go_simp; done) | (go_simp; rfl)); (case hp => exact (Reps.one (show Kd.M (Kd.int .u64) _ _ _ 2 [.int .u64 2] from rfl) (Reps.one (show Kd.M (Kd.int .u64) _ _ _ 72445721642532864 [.int .u64 72445721642532864] from rfl) (Reps.none _ _)))); intro v_ w212 ho hb hg_ hnew_; clear hg_ hnew_; rw [← Ny294.out] at ho; obtain ⟨A212, c212, rfl, hc212, hC⟩ := Kd.R_reads ho; have HB12 := Aside0.mk (below_step HB11.out hb); have HN12 := Aside0.mk (Kd.N_below HN11.out hb); clear HB11 HN11; have HR12 := Aside0.mk (Kd.C_below HR11.out hb); clear HR11; clear hb; have HL212 := Aside0.mk hC; clear ho hC) | (go_at_call 33; (with_reducible refine (CO4.out _ _ _ HL212.out hc212).mono ?_); rintro e w213 ⟨A213, c213, rfl, hc213, hC, hR, hb⟩; have HB13 := Aside0.mk (below_step HB12.out hb); have HN13 := Aside0.mk (Kd.N_below HN12.out hb); clear HB12 HN12; have HR13 := Aside0.mk (Kd.C_below HR12.out hb); clear HR12; clear hb; clear hC hR) | ((with_reducible refine gate_dst (N := 84) rfl ?_); (try (refine gate_guard (by rfl) ?_; dsimp only)); refine Kd.R_lit (Kd.int .u64) _ 45 ?hg (N := 84) ?hd (xs := ([4611686018427387904] : List Int)) (inner := [.int .u64 4611686018427387904]) (ok := fun _ => True) (okp := fun _ => True) ?hr ?hp (fun _ hk => hk) trivial (Below.refl _ _) (Nat.le_refl _) (by simp) ?_; (case hd => rfl); (case hg => rfl); (case hr => first | (go_simp; done) | (go_simp; rfl)); (case hp => exact (Reps.one (show Kd.M (Kd.int .u64) _ _ _ 4611686018427387904 [.int .u64 4611686018427387904] from rfl) (Reps.none _ _))); intro v_ w214 ho hb hg_ hnew_; clear hg_ hnew_; rw [← Ny301.out] at ho; obtain ⟨A214, c214, rfl, hc214, hC⟩ := Kd.R_reads ho; have HB14 := Aside0.mk (below_step HB13.out hb); have HN14 := Aside0.mk (Kd.N_below HN13.out hb); clear HB13 HN13; have HR14 := Aside0.mk (Kd.C_below HR13.out hb); clear HR13; clear hb; have HL214 := Aside0.mk hC; clear ho hC) | (go_at_call 33; (with_reducible refine (CO5.out _ _ _ HL214.out hc214).mono ?_); rintro e w215 ⟨A215, c215, rfl, hc215, hC, hR, hb⟩; have HB15 := Aside0.mk (below_step HB14.out hb); have HN15 := Aside0.mk (Kd.N_below HN14.out hb); clear HB14 HN14; have HR15 := Aside0.mk (Kd.C_below HR14.out hb); clear HR14; clear hb; clear hC hR) | ((with_reducible refine gate_builtin (b := .append) (xs := #[.const (.slice none 0 0), .tmp 88]) rfl ?_); (try (refine gate_guard (by rfl) ?_; dsimp only)); at_builtin; refine Kd.N_append_rows (Kd.slice 5 (Kd.int .u8)) (w0 := w215) w215.heap.size rfl (.const (.slice none 0 0)) (.tmp 88) 38 22 (.slice none 0 0) 24 rfl Try.underlying38 info22 rfl (by decide) (by omega) (.slice none 0 0) ([] : List (List Int)) y251 _ _ _ (fun _ => True) (fun k_ => True ∧ some k_ ≠ (.slice none 0 0 : Value).ownBlock) rfl rfl ?aO ?aR (fun _ hk => hk) ?aF ?aB ?aS ?aL ?_; (case aR => exact Kd.N_F (Kd.N_mono (ok' := fun k_ => True ∧ some k_ ≠ (.slice none 0 0 : Value).ownBlock) HN15.out (fun k_ _ => ⟨trivial, by simp [Value.ownBlock]⟩))); (case aB => exact Below.refl _ _); (case aF => exact fun _ _ => trivial); (case aO => exact Kd.N_nil _ _ _ _ _); (case aS => exact Nat.le_refl _); (case aL => have := HX251.out; simp only [List.length_nil]; omega); intro va w216 hoa hba hg hat; clear hg hat; rw [← Ny308.out] at hoa; have HOA := Aside0.mk hoa; have HBA := Aside0.mk hba; clear hoa hba) | ((with_reducible refine gate_builtin (b := .append) (xs := #[.tmp 89, .tmp 90]) rfl ?_); (try (refine gate_guard (by rfl) ?_; dsimp only)); at_builtin; refine Kd.N_append (Kd.slice 5 (Kd.int .u8)) (w0 := w215) w215.heap.size rfl (.tmp 89) (.tmp 90) 38 22 (.slice none 0 0) 24 rfl Try.underlying38 info22 rfl (by decide) (by omega) va y308 ([] : List Int) [.slice none 0 0] (fun _ => True) (fun k_ => True ∧ some k_ ≠ (va : Value).ownBlock) rfl rfl ?aP (fun _ hk => hk) ?aF ?aO ?aB ?aS ?aL ?_; (case aP => exact (Kd.FK_slice_mk (Nat.le_refl _) (Kd.F_nil _ _ _))); (case aB => exact HBA.out); (case aF => exact fun _ _ => trivial); (case aO => exact HOA.out); (case aS => exact below_size HBA.out); (case aL => have := HX308.out; omega); intro vb w217 hob hb hg hat; clear hg hat; rw [← Ny311.out] at hob; obtain ⟨A217, c217, rfl, hc217, hC⟩ := Kd.N_reads hob; have HB16 := Aside0.mk (below_step HB15.out hb); have HN16 := Aside0.mk (Kd.N_below HN15.out hb); clear HB15 HN15; have HR16 := Aside0.mk (Kd.C_below HR15.out hb); clear HR15; clear hb; have HF16 := Aside0.mk hC; clear hob hC HOA HBA) | (go_at_call 21; (with_reducible refine (CB4.out _ _ _ HF16.out hc217).mono ?_); rintro e w218 ⟨A218, c218, rfl, hc218, hC, hb⟩; have HB17 := Aside0.mk (below_step HB16.out hb); have HN17 := Aside0.mk (Kd.N_below HN16.out hb); clear HB16 HN16; have HR17 := Aside0.mk (Kd.C_below HR16.out hb); clear HR16; have HF17 := Aside0.mk (Kd.C_below HF16.out hb); clear HF16; clear hb; clear hC) | ((with_reducible refine gate_dst (N := 98) rfl ?_); (try (refine gate_guard (by rfl) ?_; dsimp only)); refine Kd.R_lit (Kd.int .u8) _ 5 ?hg (N := 98) ?hd (xs := ([4, 0, 0, 0, 0] : List Int)) (inner := [.int .u8 4, .int .u8 0, .int .u8 0, .int .u8 0, .int .u8 0]) (ok := fun _ => True) (okp := fun _ => True) ?hr ?hp (fun _ hk => hk) trivial (Below.refl _ _) (Nat.le_refl _) (by simp) ?_; (case hd => rfl); (case hg => rfl); (case hr => first | (go_simp; done) | (go_simp; rfl)); (case hp => exact (Reps.one (show Kd.M (Kd.int .u8) _ _ _ 4 [.int .u8 4] from rfl) (Reps.one (show Kd.M (Kd.int .u8) _ _ _ 0 [.int .u8 0] from rfl) (Reps.one (show Kd.M (Kd.int .u8) _ _ _ 0 [.int .u8 0] from rfl) (Reps.one (show Kd.M (Kd.int .u8) _ _ _ 0 [.int .u8 0] from rfl) (Reps.one (show Kd.M (Kd.int .u8) _ _ _ 0 [.int .u8 0] from rfl) (Reps.none _ _))))))); intro v_ w219 ho hb hg_ hnew_; clear hg_ hnew_; rw [← Ny318.out] at ho; obtain ⟨A219, c219, rfl, hc219, hC⟩ := Kd.R_reads ho; have HB18 := Aside0.mk (below_step HB17.out hb); have HN18 := Aside0.mk (Kd.N_below HN17.out hb); clear HB17 HN17; have HR18 := Aside0.mk (Kd.C_below HR17.out hb); clear HR17; have HF18 := Aside0.mk (Kd.C_below HF17.out hb); clear HF17; clear hb; have HL219 := Aside0.mk hC; clear ho hC) | (go_at_call 31; (with_reducible refine (CR1.out _ _ _ HL219.out hc219).mono ?_); rintro e w220 ⟨A220, c220, rfl, hc220, hC, hR, hb⟩; have HB19 := Aside0.mk (below_step HB18.out hb); have HN19 := Aside0.mk (Kd.N_below HN18.out hb); clear HB18 HN18; have HR19 := Aside0.mk (Kd.C_below HR18.out hb); clear HR18; have HF19 := Aside0.mk (Kd.C_below HF18.out hb); clear HF18; clear hb; clear hC hR) | ((with_reducible refine gate_dst (N := 103) rfl ?_); (try (refine gate_guard (by rfl) ?_; dsimp only)); refine Kd.R_lit (Kd.int .u8) _ 5 ?hg (N := 103) ?hd (xs := ([0] : List Int)) (inner := [.int .u8 0]) (ok := fun _ => True) (okp := fun _ => True) ?hr ?hp (fun _ hk => hk) trivial (Below.refl _ _) (Nat.le_refl _) (by simp) ?_; (case hd => rfl); (case hg => rfl); (case hr => first | (go_simp; done) | (go_simp; rfl)); (case hp => exact (Reps.one (show Kd.M (Kd.int .u8) _ _ _ 0 [.int .u8 0] from rfl) (Reps.none _ _))); intro v_ w221 ho hb hg_ hnew_; clear hg_ hnew_; rw [← Ny325.out] at ho; obtain ⟨A221, c221, rfl, hc221, hC⟩ := Kd.R_reads ho; have HB20 := Aside0.mk (below_step HB19.out hb); have HN20 := Aside0.mk (Kd.N_below HN19.out hb); clear HB19 HN19; have HR20 := Aside0.mk (Kd.C_below HR19.out hb); clear HR19; have HF20 := Aside0.mk (Kd.C_below HF19.out hb); clear HF19; clear hb; have HL221 := Aside0.mk hC; clear ho hC) | (go_at_call 31; (with_reducible refine (CR2.out _ _ _ HL221.out hc221).mono ?_); rintro e w222 ⟨A222, c222, rfl, hc222, hC, hR, hb⟩; have HB21 := Aside0.mk (below_step HB20.out hb); have HN21 := Aside0.mk (Kd.N_below HN20.out hb); clear HB20 HN20; have HR21 := Aside0.mk (Kd.C_below HR20.out hb); clear HR20; have HF21 := Aside0.mk (Kd.C_below HF20.out hb); clear HF20; clear hb; clear hC hR))
  have HB15 := Aside0.mk (below_drew1 HB21.out)
  have HN15 := Aside0.mk (Kd.N_drewN HN21.out 1)
  have HR15 := Aside0.mk (Kd.C_drewN HR21.out 1)
  have HF15 := Aside0.mk (Kd.C_drewN HF21.out 1)
  clear HB21 HN21 HR21 HF21
  refine start_ (n := 8) (S := fun w' => True) (ds := []) #[false, false, false, false, false, false, false, false] (by kernel_rfl) rfl rfl trivial (fun hHeld => ?_); refine with_tabW bnd.tab15 bnd.bits15 (fun HT_ HW_ => ?_)
  change Aside0 (Below _ _ w222.drew) at HB15
  change Aside0 (Kd.N _ _ w222.drew _ _ _ _) at HN15
  change Aside0 (Kd.C _ w222.drew _ _ _) at HR15
  change Aside0 (Kd.C _ w222.drew _ _ _) at HF15
  generalize w222.drew = w15 at HB15 HN15 HR15 HF15 hHeld ⊢
  refine join_ (σ := Value × Value) 6 #[true, true, false, false, false, false, false, false] (fun s_ => [(108, s_.1), (109, s_.2)]) (fun s_ w' => (Kd.R (Kd.int .u8) 5 w' w15.heap.size (fun _ => True) s_.1 y332) ∧ (Kd.R (Kd.int .u8) 5 w' w15.heap.size (fun _ => True) s_.2 y335) ∧ (Below w15.heap.size w15 w')) ?_ ?_
  rotate_left
  · intro hCont
    refine two_ (i := 0) (j := 1) (Ni := some 108) (Nj := some 109) #[true, false, false, false, false, false, false, false] #[false, true, false, false, false, false, false, false] rfl rfl rfl rfl (two_of HT_.out (by kernel_rfl)) (by decide) (by decide) (fun K hK => ?_) (fun K hK => ?_)
    · skip
      refine Kd.R_make_step (Kd.int .u8) _ 5 (by rfl) (N := 108) rfl 22 _ _ rfl 24 rfl rfl Try.underlying22 (.int .u8 0) 1 info5 rfl (by decide) (by omega) 0 (ok := fun _ => True) (okp := fun _ => True) rfl (fun _ hk => hk) trivial (by omega) (by omega) (Below.refl _ _) (Nat.le_refl _) ?_
      intro v333 w16 ho1 hb1 hg_ hnew_
      clear hg_ hnew_
      (first | rw [← Ny332.out] at ho1 | (simp only [Int.reduceToNat] at ho1; rw [← Ny332.out] at ho1))
      refine hK.out _ _ trivial (fun hHeld => ?_)
      clear hK K
      refine norm_ (a' := ?_) ?_ ?_
      rotate_left
      · show Act.put _ (some 108) _ = _
        simp only [Act.put, List.setIfInBounds_toArray, List.set_cons_zero, List.set_cons_succ, i64_w, i32_w]
        rfl
      refine one_ (i := 1) (N := some 109) #[true, true, false, false, false, false, false, false] rfl rfl (one_of HT_.out (by kernel_rfl)) (by decide) (fun K hK => ?_)
      refine Kd.R_make_step (Kd.int .u8) _ 5 (by rfl) (N := 109) rfl 22 _ _ rfl 32 rfl rfl Try.underlying22 (.int .u8 0) 1 info5 rfl (by decide) (by omega) 0 (ok := fun _ => True) (okp := fun _ => True) rfl (fun _ hk => hk) trivial (by omega) (by omega) (Below.refl _ _) (Nat.le_refl _) ?_
      intro v336 w17 ho2 hb2 hg_ hnew_
      clear hg_ hnew_
      (first | rw [← Ny335.out] at ho2 | (simp only [Int.reduceToNat] at ho2; rw [← Ny335.out] at ho2))
      refine hK.out _ _ trivial (fun hHeld => ?_)
      clear hK K
      refine norm_ (a' := ?_) ?_ ?_
      rotate_left
      · show Act.put _ (some 109) _ = _
        simp only [Act.put, List.setIfInBounds_toArray, List.set_cons_zero, List.set_cons_succ, i64_w, i32_w]
        rfl
      exact norm_ (by simp only [putAll, Act.put, List.setIfInBounds_toArray, List.set_cons_zero, List.set_cons_succ]) (hCont (v333, v336) _ ⟨Kd.R_below ho1 hb2, Kd.R_lower ho2 (below_size hb1), below_step hb1 hb2⟩)
    · skip
      refine Kd.R_make_step (Kd.int .u8) _ 5 (by rfl) (N := 109) rfl 22 _ _ rfl 32 rfl rfl Try.underlying22 (.int .u8 0) 1 info5 rfl (by decide) (by omega) 0 (ok := fun _ => True) (okp := fun _ => True) rfl (fun _ hk => hk) trivial (by omega) (by omega) (Below.refl _ _) (Nat.le_refl _) ?_
      intro v336 w16 ho2 hb1 hg_ hnew_
      clear hg_ hnew_
      (first | rw [← Ny335.out] at ho2 | (simp only [Int.reduceToNat] at ho2; rw [← Ny335.out] at ho2))
      refine hK.out _ _ trivial (fun hHeld => ?_)
      clear hK K
      refine norm_ (a' := ?_) ?_ ?_
      rotate_left
      · show Act.put _ (some 109) _ = _
        simp only [Act.put, List.setIfInBounds_toArray, List.set_cons_zero, List.set_cons_succ, i64_w, i32_w]
        rfl
      refine one_ (i := 0) (N := some 108) #[true, true, false, false, false, false, false, false] rfl rfl (one_of HT_.out (by kernel_rfl)) (by decide) (fun K hK => ?_)
      refine Kd.R_make_step (Kd.int .u8) _ 5 (by rfl) (N := 108) rfl 22 _ _ rfl 24 rfl rfl Try.underlying22 (.int .u8 0) 1 info5 rfl (by decide) (by omega) 0 (ok := fun _ => True) (okp := fun _ => True) rfl (fun _ hk => hk) trivial (by omega) (by omega) (Below.refl _ _) (Nat.le_refl _) ?_
      intro v333 w17 ho1 hb2 hg_ hnew_
      clear hg_ hnew_
      (first | rw [← Ny332.out] at ho1 | (simp only [Int.reduceToNat] at ho1; rw [← Ny332.out] at ho1))
      refine hK.out _ _ trivial (fun hHeld => ?_)
      clear hK K
      refine norm_ (a' := ?_) ?_ ?_
      rotate_left
      · show Act.put _ (some 108) _ = _
        simp only [Act.put, List.setIfInBounds_toArray, List.set_cons_zero, List.set_cons_succ, i64_w, i32_w]
        rfl
      exact norm_ (by simp only [putAll, Act.put, List.setIfInBounds_toArray, List.set_cons_zero, List.set_cons_succ]) (hCont (v333, v336) _ ⟨Kd.R_lower ho1 (below_size hb1), Kd.R_below ho2 hb2, below_step hb1 hb2⟩)
  rintro ⟨v333, v336⟩ w18 ⟨h0_, h1_, hb⟩
  obtain ⟨A18, c18, rfl, hc18, hC18⟩ := Kd.R_reads h0_
  obtain ⟨B18, d18, rfl, hd18, hD18⟩ := Kd.R_reads h1_
  clear h0_ h1_
  have HC18 := Aside0.mk hC18
  have HD18 := Aside0.mk hD18
  clear hC18 hD18
  have HB16 := Aside0.mk (below_step HB15.out hb)
  have HN16 := Aside0.mk (Kd.N_below HN15.out hb)
  clear HB15 HN15
  have HR16 := Aside0.mk (Kd.C_below HR15.out hb)
  clear HR15
  have HF16 := Aside0.mk (Kd.C_below HF15.out hb)
  clear HF15
  clear hb
  have hHeld := trivial
  refine norm_ (a' := ?_) ?_ ?_
  rotate_left
  · simp only [putAll, Act.put, List.setIfInBounds_toArray, List.set_cons_zero, List.set_cons_succ]
    rfl
  refine one_ (i := 2) (N := some 110) #[true, true, true, false, false, false, false, false] rfl rfl (one_of HT_.out (by kernel_rfl)) (by decide) (fun K hK => ?_)
  refine goes_ Try.func15 (by kernel_rfl) rfl #[.slice A18 y332.length c18, .slice B18 y335.length d18] (by rfl) rfl rfl (by (try simp only [List.map_toArray, List.map_cons, List.map_nil]); first | done | rfl) ?_
  with_reducible refine (CE1.out _ _ _ _ _ HC18.out hc18 HD18.out hd18).mono ?_
  rintro e w19 ⟨A19, c19, rfl, hc19, hC, hb⟩
  refine ⟨_, rfl, ?_⟩
  have HB17 := Aside0.mk (below_step HB16.out hb)
  have HN17 := Aside0.mk (Kd.N_below HN16.out hb)
  clear HB16 HN16
  have HR17 := Aside0.mk (Kd.C_below HR16.out hb)
  clear HR16
  have HF17 := Aside0.mk (Kd.C_below HF16.out hb)
  clear HF16
  clear hb
  clear hC
  refine hK.out _ _ trivial (fun hHeld => ?_)
  clear hK K
  refine norm_ (a' := ?_) ?_ ?_
  rotate_left
  · show Act.put _ (some 110) _ = _
    simp only [Act.put, List.setIfInBounds_toArray, List.set_cons_zero, List.set_cons_succ, i64_w, i32_w]
    rfl
  refine pure_ (i := 3) (N := some 107) (v := ?_) (a' := ?_) #[true, true, true, true, false, false, false, false] rfl rfl (any_of HT_.out (by kernel_rfl)) (fun _ _ _ h => h) (Or.inl ⟨by rfl, ?_⟩) ?_ ?_
  rotate_left
  · intro w'
    go_simp
    with_reducible rfl
  rotate_left
  · simp only [Act.put, List.setIfInBounds_toArray, List.set_cons_zero, List.set_cons_succ, i64_w, i32_w]
    rfl
  refine pure_ (i := 4) (N := some 111) (v := ?_) (a' := ?_) #[true, true, true, true, true, false, false, false] rfl rfl (any_of HT_.out (by kernel_rfl)) (fun _ _ _ h => h) (Or.inl ⟨by rfl, ?_⟩) ?_ ?_
  rotate_left
  · intro w'
    go_simp
    with_reducible rfl
  rotate_left
  · simp only [Act.put, List.setIfInBounds_toArray, List.set_cons_zero, List.set_cons_succ, i64_w, i32_w]
    rfl
  refine pure_ (i := 5) (N := some 112) (v := ?_) (a' := ?_) #[true, true, true, true, true, true, false, false] rfl rfl (any_of HT_.out (by kernel_rfl)) (fun _ _ _ h => h) (Or.inl ⟨by rfl, ?_⟩) ?_ ?_
  rotate_left
  · intro w'
    go_simp
    with_reducible rfl
  rotate_left
  · simp only [Act.put, List.setIfInBounds_toArray, List.set_cons_zero, List.set_cons_succ, i64_w, i32_w]
    rfl
  refine pure_ (i := 6) (N := some 27) (v := ?_) (a' := ?_) #[true, true, true, true, true, true, true, false] rfl rfl (any_of HT_.out (by kernel_rfl)) (fun _ _ _ h => h) (Or.inl ⟨by rfl, ?_⟩) ?_ ?_
  rotate_left
  · intro w'
    go_simp
    with_reducible rfl
  rotate_left
  · simp only [Act.put, List.setIfInBounds_toArray, List.set_cons_zero, List.set_cons_succ, i64_w, i32_w]
    rfl
  refine pure_ (i := 7) (N := some 28) (v := ?_) (a' := ?_) #[true, true, true, true, true, true, true, true] rfl rfl (any_of HT_.out (by kernel_rfl)) (fun _ _ _ h => h) (Or.inl ⟨by rfl, ?_⟩) ?_ ?_
  rotate_left
  · intro w'
    go_simp
    with_reducible rfl
  rotate_left
  · simp only [Act.put, List.setIfInBounds_toArray, List.set_cons_zero, List.set_cons_succ, i64_w, i32_w]
    rfl
  refine done_ (done_of HT_.out (by kernel_rfl)) ?_
  go_wp2_with (first | ((with_reducible refine gate_dst (N := 114) rfl ?_); (try (refine gate_guard (by rfl) ?_; dsimp only)); refine Kd.R_make (Kd.int .u8) _ 5 rfl (N := 114) rfl 22 _ _ rfl 33 rfl rfl Try.underlying22 (.int .u8 0) 1 info5 rfl (by decide) (by omega) 0 (ok := fun _ => True) (okp := fun _ => True) rfl (fun _ hk => hk) trivial (by omega) (by omega) (Below.refl _ _) (Nat.le_refl _) ?_; intro v_ w223 ho hb hg_ hnew_; clear hg_ hnew_; (first | rw [← Ny342.out] at ho | (simp only [Int.reduceToNat] at ho; rw [← Ny342.out] at ho)); obtain ⟨A223, c223, rfl, hc223, hC⟩ := Kd.R_reads ho; have HB18 := Aside0.mk (below_step HB17.out hb); have HN18 := Aside0.mk (Kd.N_below HN17.out hb); clear HB17 HN17; have HR18 := Aside0.mk (Kd.C_below HR17.out hb); clear HR17; have HF18 := Aside0.mk (Kd.C_below HF17.out hb); clear HF17; clear hb; have HL223 := Aside0.mk hC; clear ho hC) | (go_at_call 15; (with_reducible refine (CE2.out _ _ _ HL223.out hc223).mono ?_); rintro e w224 ⟨A224, c224, rfl, hc224, -, hb⟩; have HB19 := Aside0.mk (below_step HB18.out hb); have HN19 := Aside0.mk (Kd.N_below HN18.out hb); clear HB18 HN18; have HR19 := Aside0.mk (Kd.C_below HR18.out hb); clear HR18; have HF19 := Aside0.mk (Kd.C_below HF18.out hb); clear HF18; clear hb) | ((with_reducible refine gate_dst (N := 119) rfl ?_); (try (refine gate_guard (by rfl) ?_; dsimp only)); refine Kd.R_lit (Kd.int .u8) _ 5 ?hg (N := 119) ?hd (xs := ([0, 2, 5] : List Int)) (inner := [.int .u8 0, .int .u8 2, .int .u8 5]) (ok := fun _ => True) (okp := fun _ => True) ?hr ?hp (fun _ hk => hk) trivial (Below.refl _ _) (Nat.le_refl _) (by simp) ?_; (case hd => rfl); (case hg => rfl); (case hr => first | (go_simp; done) | (go_simp; rfl)); (case hp => exact (Reps.one (show Kd.M (Kd.int .u8) _ _ _ 0 [.int .u8 0] from rfl) (Reps.one (show Kd.M (Kd.int .u8) _ _ _ 2 [.int .u8 2] from rfl) (Reps.one (show Kd.M (Kd.int .u8) _ _ _ 5 [.int .u8 5] from rfl) (Reps.none _ _))))); intro v_ w225 ho hb hg_ hnew_; clear hg_ hnew_; rw [← Ny349.out] at ho; obtain ⟨A225, c225, rfl, hc225, hC⟩ := Kd.R_reads ho; have HB20 := Aside0.mk (below_step HB19.out hb); have HN20 := Aside0.mk (Kd.N_below HN19.out hb); clear HB19 HN19; have HR20 := Aside0.mk (Kd.C_below HR19.out hb); clear HR19; have HF20 := Aside0.mk (Kd.C_below HF19.out hb); clear HF19; clear hb; have HL225 := Aside0.mk hC; clear ho hC) | (go_at_call 11; (with_reducible refine (CS1.out _ _ _ HL225.out hc225).mono ?_); rintro e w226 ⟨A226, c226, B226, d226, rfl, hc226, hd226, -, -, hb⟩; have HB21 := Aside0.mk (below_step HB20.out hb); have HN21 := Aside0.mk (Kd.N_below HN20.out hb); clear HB20 HN20; have HR21 := Aside0.mk (Kd.C_below HR20.out hb); clear HR20; have HF21 := Aside0.mk (Kd.C_below HF20.out hb); clear HF20; clear hb) | ((with_reducible refine gate_dst (N := 125) rfl ?_); (try (refine gate_guard (by rfl) ?_; dsimp only)); refine Kd.R_lit (Kd.int .u8) _ 5 ?hg (N := 125) ?hd (xs := ([0, 1] : List Int)) (inner := [.int .u8 0, .int .u8 1]) (ok := fun _ => True) (okp := fun _ => True) ?hr ?hp (fun _ hk => hk) trivial (Below.refl _ _) (Nat.le_refl _) (by simp) ?_; (case hd => rfl); (case hg => rfl); (case hr => first | (go_simp; done) | (go_simp; rfl)); (case hp => exact (Reps.one (show Kd.M (Kd.int .u8) _ _ _ 0 [.int .u8 0] from rfl) (Reps.one (show Kd.M (Kd.int .u8) _ _ _ 1 [.int .u8 1] from rfl) (Reps.none _ _)))); intro v_ w227 ho hb hg_ hnew_; clear hg_ hnew_; rw [← Ny359.out] at ho; obtain ⟨A227, c227, rfl, hc227, hC⟩ := Kd.R_reads ho; have HB22 := Aside0.mk (below_step HB21.out hb); have HN22 := Aside0.mk (Kd.N_below HN21.out hb); clear HB21 HN21; have HR22 := Aside0.mk (Kd.C_below HR21.out hb); clear HR21; have HF22 := Aside0.mk (Kd.C_below HF21.out hb); clear HF21; clear hb; have HL227 := Aside0.mk hC; clear ho hC) | (go_at_call 11; (with_reducible refine (CS2.out _ _ _ HL227.out hc227).mono ?_); rintro e w228 ⟨A228, c228, B228, d228, rfl, hc228, hd228, -, -, hb⟩; have HB23 := Aside0.mk (below_step HB22.out hb); have HN23 := Aside0.mk (Kd.N_below HN22.out hb); clear HB22 HN22; have HR23 := Aside0.mk (Kd.C_below HR22.out hb); clear HR22; have HF23 := Aside0.mk (Kd.C_below HF22.out hb); clear HF22; clear hb) | (go_at_call 13; (with_reducible refine (num_call (0) _).mono ?_); rintro e w229 ⟨rfl, hd⟩; have hb := drawn_below hd; clear hd; have HB24 := Aside0.mk (below_step HB23.out hb); have HN24 := Aside0.mk (Kd.N_below HN23.out hb); clear HB23 HN23; have HR24 := Aside0.mk (Kd.C_below HR23.out hb); clear HR23; have HF24 := Aside0.mk (Kd.C_below HF23.out hb); clear HF23; clear hb) | (go_at_call 13; (with_reducible refine (num_call (0) _).mono ?_); rintro e w230 ⟨rfl, hd⟩; have hb := drawn_below hd; clear hd; have HB25 := Aside0.mk (below_step HB24.out hb); have HN25 := Aside0.mk (Kd.N_below HN24.out hb); clear HB24 HN24; have HR25 := Aside0.mk (Kd.C_below HR24.out hb); clear HR24; have HF25 := Aside0.mk (Kd.C_below HF24.out hb); clear HF24; clear hb) | (go_at_call 13; (with_reducible refine (num_call (0) _).mono ?_); rintro e w231 ⟨rfl, hd⟩; have hb := drawn_below hd; clear hd; have HB26 := Aside0.mk (below_step HB25.out hb); have HN26 := Aside0.mk (Kd.N_below HN25.out hb); clear HB25 HN25; have HR26 := Aside0.mk (Kd.C_below HR25.out hb); clear HR25; have HF26 := Aside0.mk (Kd.C_below HF25.out hb); clear HF25; clear hb) | (go_at_call 13; (with_reducible refine (num_call (0) _).mono ?_); rintro e w232 ⟨rfl, hd⟩; have hb := drawn_below hd; clear hd; have HB27 := Aside0.mk (below_step HB26.out hb); have HN27 := Aside0.mk (Kd.N_below HN26.out hb); clear HB26 HN26; have HR27 := Aside0.mk (Kd.C_below HR26.out hb); clear HR26; have HF27 := Aside0.mk (Kd.C_below HF26.out hb); clear HF26; clear hb) | (go_at_call 24; (with_reducible refine (CSM.out _ _ _ _ _ HR27.out hc203 (Kd.N_reads' HN27.out).2.2 (Kd.N_reads' HN27.out).2.1).mono ?_); rintro e w233 ⟨rfl, hd⟩; have hb := drawn_below hd; clear hd; have HB28 := Aside0.mk (below_step HB27.out hb); have HN28 := Aside0.mk (Kd.N_below HN27.out hb); clear HB27 HN27; have HR28 := Aside0.mk (Kd.C_below HR27.out hb); clear HR27; have HF28 := Aside0.mk (Kd.C_below HF27.out hb); clear HF27; clear hb) | (go_at_call 13; (with_reducible refine (num_call (4) _).mono ?_); rintro e w234 ⟨rfl, hd⟩; have hb := drawn_below hd; clear hd; have HB29 := Aside0.mk (below_step HB28.out hb); have HN29 := Aside0.mk (Kd.N_below HN28.out hb); clear HB28 HN28; have HR29 := Aside0.mk (Kd.C_below HR28.out hb); clear HR28; have HF29 := Aside0.mk (Kd.C_below HF28.out hb); clear HF28; clear hb) | (go_at_call 13; (with_reducible refine (num_call (4) _).mono ?_); rintro e w235 ⟨rfl, hd⟩; have hb := drawn_below hd; clear hd; have HB30 := Aside0.mk (below_step HB29.out hb); have HN30 := Aside0.mk (Kd.N_below HN29.out hb); clear HB29 HN29; have HR30 := Aside0.mk (Kd.C_below HR29.out hb); clear HR29; have HF30 := Aside0.mk (Kd.C_below HF29.out hb); clear HF29; clear hb) | (go_at_call 13; (with_reducible refine (num_call (4) _).mono ?_); rintro e w236 ⟨rfl, hd⟩; have hb := drawn_below hd; clear hd; have HB31 := Aside0.mk (below_step HB30.out hb); have HN31 := Aside0.mk (Kd.N_below HN30.out hb); clear HB30 HN30; have HR31 := Aside0.mk (Kd.C_below HR30.out hb); clear HR30; have HF31 := Aside0.mk (Kd.C_below HF30.out hb); clear HF30; clear hb) | (go_at_call 13; (with_reducible refine (num_call (4) _).mono ?_); rintro e w237 ⟨rfl, hd⟩; have hb := drawn_below hd; clear hd; have HB32 := Aside0.mk (below_step HB31.out hb); have HN32 := Aside0.mk (Kd.N_below HN31.out hb); clear HB31 HN31; have HR32 := Aside0.mk (Kd.C_below HR31.out hb); clear HR31; have HF32 := Aside0.mk (Kd.C_below HF31.out hb); clear HF31; clear hb) | (go_at_call 13; (with_reducible refine (num_call (4) _).mono ?_); rintro e w238 ⟨rfl, hd⟩; have hb := drawn_below hd; clear hd; have HB33 := Aside0.mk (below_step HB32.out hb); have HN33 := Aside0.mk (Kd.N_below HN32.out hb); clear HB32 HN32; have HR33 := Aside0.mk (Kd.C_below HR32.out hb); clear HR32; have HF33 := Aside0.mk (Kd.C_below HF32.out hb); clear HF32; clear hb) | (go_at_call 13; (with_reducible refine (num_call (4) _).mono ?_); rintro e w239 ⟨rfl, hd⟩; have hb := drawn_below hd; clear hd; have HB34 := Aside0.mk (below_step HB33.out hb); have HN34 := Aside0.mk (Kd.N_below HN33.out hb); clear HB33 HN33; have HR34 := Aside0.mk (Kd.C_below HR33.out hb); clear HR33; have HF34 := Aside0.mk (Kd.C_below HF33.out hb); clear HF33; clear hb) | (go_at_call 13; (with_reducible refine (num_call (2) _).mono ?_); rintro e w240 ⟨rfl, hd⟩; have hb := drawn_below hd; clear hd; have HB35 := Aside0.mk (below_step HB34.out hb); have HN35 := Aside0.mk (Kd.N_below HN34.out hb); clear HB34 HN34; have HR35 := Aside0.mk (Kd.C_below HR34.out hb); clear HR34; have HF35 := Aside0.mk (Kd.C_below HF34.out hb); clear HF34; clear hb) | (go_at_call 13; (with_reducible refine (num_call (4) _).mono ?_); rintro e w241 ⟨rfl, hd⟩; have hb := drawn_below hd; clear hd; have HB36 := Aside0.mk (below_step HB35.out hb); have HN36 := Aside0.mk (Kd.N_below HN35.out hb); clear HB35 HN35; have HR36 := Aside0.mk (Kd.C_below HR35.out hb); clear HR35; have HF36 := Aside0.mk (Kd.C_below HF35.out hb); clear HF35; clear hb) | (go_at_call 13; (with_reducible refine (num_call (4) _).mono ?_); rintro e w242 ⟨rfl, hd⟩; have hb := drawn_below hd; clear hd; have HB37 := Aside0.mk (below_step HB36.out hb); have HN37 := Aside0.mk (Kd.N_below HN36.out hb); clear HB36 HN36; have HR37 := Aside0.mk (Kd.C_below HR36.out hb); clear HR36; have HF37 := Aside0.mk (Kd.C_below HF36.out hb); clear HF36; clear hb) | (go_at_call 13; (with_reducible refine (num_call (2) _).mono ?_); rintro e w243 ⟨rfl, hd⟩; have hb := drawn_below hd; clear hd; have HB38 := Aside0.mk (below_step HB37.out hb); have HN38 := Aside0.mk (Kd.N_below HN37.out hb); clear HB37 HN37; have HR38 := Aside0.mk (Kd.C_below HR37.out hb); clear HR37; have HF38 := Aside0.mk (Kd.C_below HF37.out hb); clear HF37; clear hb) | (go_at_call 13; (with_reducible refine (num_call (4) _).mono ?_); rintro e w244 ⟨rfl, hd⟩; have hb := drawn_below hd; clear hd; have HB39 := Aside0.mk (below_step HB38.out hb); have HN39 := Aside0.mk (Kd.N_below HN38.out hb); clear HB38 HN38; have HR39 := Aside0.mk (Kd.C_below HR38.out hb); clear HR38; have HF39 := Aside0.mk (Kd.C_below HF38.out hb); clear HF38; clear hb) | (go_at_call 13; (with_reducible refine (num_call (4) _).mono ?_); rintro e w245 ⟨rfl, hd⟩; have hb := drawn_below hd; clear hd; have HB40 := Aside0.mk (below_step HB39.out hb); have HN40 := Aside0.mk (Kd.N_below HN39.out hb); clear HB39 HN39; have HR40 := Aside0.mk (Kd.C_below HR39.out hb); clear HR39; have HF40 := Aside0.mk (Kd.C_below HF39.out hb); clear HF39; clear hb) | ((with_reducible refine gate_dst (N := 223) rfl ?_); (try (refine gate_guard (by rfl) ?_; dsimp only)); refine Kd.R_make (Kd.int .u8) _ 5 rfl (N := 223) rfl 22 _ _ rfl 32 rfl rfl Try.underlying22 (.int .u8 0) 1 info5 rfl (by decide) (by omega) 0 (ok := fun _ => True) (okp := fun _ => True) rfl (fun _ hk => hk) trivial (by omega) (by omega) (Below.refl _ _) (Nat.le_refl _) ?_; intro v_ w246 ho hb hg_ hnew_; clear hg_ hnew_; (first | rw [← Ny386.out] at ho | (simp only [Int.reduceToNat] at ho; rw [← Ny386.out] at ho)); obtain ⟨A246, c246, rfl, hc246, hC⟩ := Kd.R_reads ho; have HB41 := Aside0.mk (below_step HB40.out hb); have HN41 := Aside0.mk (Kd.N_below HN40.out hb); clear HB40 HN40; have HR41 := Aside0.mk (Kd.C_below HR40.out hb); clear HR40; have HF41 := Aside0.mk (Kd.C_below HF40.out hb); clear HF40; clear hb; have HL246 := Aside0.mk hC; clear ho hC) | (go_at_call 19; (with_reducible refine (CK1.out _ _ _ HL246.out hc246).mono ?_); rintro e w247 ⟨rfl, hd⟩; have hb := drawn_below hd; clear hd; have HB42 := Aside0.mk (below_step HB41.out hb); have HN42 := Aside0.mk (Kd.N_below HN41.out hb); clear HB41 HN41; have HR42 := Aside0.mk (Kd.C_below HR41.out hb); clear HR41; have HF42 := Aside0.mk (Kd.C_below HF41.out hb); clear HF41; clear hb) | ((with_reducible refine gate_dst (N := 227) rfl ?_); (try (refine gate_guard (by rfl) ?_; dsimp only)); refine Kd.R_make (Kd.int .u8) _ 5 rfl (N := 227) rfl 22 _ _ rfl 33 rfl rfl Try.underlying22 (.int .u8 0) 1 info5 rfl (by decide) (by omega) 0 (ok := fun _ => True) (okp := fun _ => True) rfl (fun _ hk => hk) trivial (by omega) (by omega) (Below.refl _ _) (Nat.le_refl _) ?_; intro v_ w248 ho hb hg_ hnew_; clear hg_ hnew_; (first | rw [← Ny390.out] at ho | (simp only [Int.reduceToNat] at ho; rw [← Ny390.out] at ho)); obtain ⟨A248, c248, rfl, hc248, hC⟩ := Kd.R_reads ho; have HB43 := Aside0.mk (below_step HB42.out hb); have HN43 := Aside0.mk (Kd.N_below HN42.out hb); clear HB42 HN42; have HR43 := Aside0.mk (Kd.C_below HR42.out hb); clear HR42; have HF43 := Aside0.mk (Kd.C_below HF42.out hb); clear HF42; clear hb; have HL248 := Aside0.mk hC; clear ho hC) | (go_at_call 19; (with_reducible refine (CK2.out _ _ _ HL248.out hc248).mono ?_); rintro e w249 ⟨rfl, hd⟩; have hb := drawn_below hd; clear hd; have HB44 := Aside0.mk (below_step HB43.out hb); have HN44 := Aside0.mk (Kd.N_below HN43.out hb); clear HB43 HN43; have HR44 := Aside0.mk (Kd.C_below HR43.out hb); clear HR43; have HF44 := Aside0.mk (Kd.C_below HF43.out hb); clear HF43; clear hb) | (go_at_call 19; (with_reducible refine (CKN.out _).mono ?_); rintro e w250 ⟨rfl, hd⟩; have hb := drawn_below hd; clear hd; have HB45 := Aside0.mk (below_step HB44.out hb); have HN45 := Aside0.mk (Kd.N_below HN44.out hb); clear HB44 HN44; have HR45 := Aside0.mk (Kd.C_below HR44.out hb); clear HR44; have HF45 := Aside0.mk (Kd.C_below HF44.out hb); clear HF44; clear hb) | ((with_reducible refine gate_dst (N := 236) rfl ?_); (try (refine gate_guard (by rfl) ?_; dsimp only)); refine Kd.N_lit (Kd.slice 5 (Kd.int .u8)) _ 22 ?hg (N' := 236) ?hd (xs := ([] : List (List Int))) (inner := []) (ok := fun _ => True) (okp := fun _ => True) ?hr ?hp (fun _ hk => hk) trivial (Below.refl _ _) (Nat.le_refl _) (by simp) ?_; (case hd => rfl); (case hg => rfl); (case hr => first | (go_simp; done) | (go_simp; rfl)); (case hp => exact (Reps.none _ _)); intro v_ w251 ho hb hg_ hnew_; clear hg_ hnew_; rw [← Ny395.out] at ho; obtain ⟨A251, c251, rfl, hc251, hC⟩ := Kd.N_reads ho; have HB46 := Aside0.mk (below_step HB45.out hb); have HN46 := Aside0.mk (Kd.N_below HN45.out hb); clear HB45 HN45; have HR46 := Aside0.mk (Kd.C_below HR45.out hb); clear HR45; have HF46 := Aside0.mk (Kd.C_below HF45.out hb); clear HF45; clear hb; have HL251 := Aside0.mk hC; clear ho hC) | (go_at_call 23; (with_reducible refine (CS0.out _ _ _ HL251.out hc251).mono ?_); rintro e w252 ⟨rfl, hd⟩; have hb := drawn_below hd; clear hd; have HB47 := Aside0.mk (below_step HB46.out hb); have HN47 := Aside0.mk (Kd.N_below HN46.out hb); clear HB46 HN46; have HR47 := Aside0.mk (Kd.C_below HR46.out hb); clear HR46; have HF47 := Aside0.mk (Kd.C_below HF46.out hb); clear HF46; clear hb) | (go_at_call 23; (with_reducible refine (CS4.out _ _ _ _ _ (Kd.N_reads' HN47.out).2.2 (Kd.N_reads' HN47.out).2.1 HF47.out hc217).mono ?_); rintro e w253 ⟨rfl, hd⟩; have hb := drawn_below hd; clear hd; have HB48 := Aside0.mk (below_step HB47.out hb); have HN48 := Aside0.mk (Kd.N_below HN47.out hb); clear HB47 HN47; have HR48 := Aside0.mk (Kd.C_below HR47.out hb); clear HR47; have HF48 := Aside0.mk (Kd.C_below HF47.out hb); clear HF47; clear hb) | (go_at_call 10; refine (known_call _).mono ?_; rintro e w254 ⟨rfl, hb⟩; have HB49 := Aside0.mk (below_step HB48.out hb); have HN49 := Aside0.mk (Kd.N_below HN48.out hb); clear HB48 HN48; have HR49 := Aside0.mk (Kd.C_below HR48.out hb); clear HR48; have HF49 := Aside0.mk (Kd.C_below HF48.out hb); clear HF48; clear hb))
  go_ret
  exact ⟨by first | rfl | simp, HB49.out⟩
end Go.Proofs.Ytmpbcmnnlkienaa.Of
