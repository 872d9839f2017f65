/- Written for this claim by a program of this session (hp.py): Go functions as plain functions, each with the proof that its call comes to it. -/
import Derived.Test.YtmghnbdbhdljjaaHSx0
import Derived.Test.YtmghnbdbhdljjaaHSx1
namespace Go.Proofs.Ytmghnbdbhdljjaa.HS
open Go.RowKit Go.Proofs.YtmghnbdbhdljjaaW.PrintWords Go.Proofs.YtmghnbdbhdljjaaW.PrintLast Go.Proofs.YtmghnbdbhdljjaaW.PrintMore
attribute [local go_sem] max2_int min2_int max_two min_two max_three min_three max_four min_four   -- for this text's walks alone
set_option linter.unusedVariables false
set_option linter.unusedSimpArgs false

/-! ### gW: function 3 -/
mutual
def gW.l0 : Nat → Int → Int → Bool → List Int → List (List Int) → List Int → List Int → List Int → List Int → List Int → List Int → Int → Option (Bool)
  | 0, _, _, _, _, _, _, _, _, _, _, _, _ => none
  | k + 1, x0, x1, x2, x3, x4, x5, x6, x7, x8, x9, x10, x11 => if x11 < (x4.length : Int) then (if 0 ≤ x11 then (if x10.length + (rd_L1 x4 x11).length < 140737488355328 then (gW.l0 k x0 x1 x2 x3 x4 x5 x6 x7 x8 x9 (x10 ++ (rd_L1 x4 x11)) (wrap64 (x11 + 1))) else (none)) else (none)) else ((wire_Join.f k x4).bind fun t175 => ((garnerref01_Bytes.f k x3).bind fun t178 => (if (strOfNums x6).toList = (strOfNums t178).toList then ((garnerref01_Number.f k x0).bind fun t181 => (if (strOfNums x8).toList = (strOfNums t181).toList then ((wire_Signed.f x1).bind fun t184 => ((garnerref01_Signed.f k x1).bind fun t187 => (if (strOfNums t184).toList = (strOfNums t187).toList then ((wire_Flag.f x2).bind fun t190 => ((garnerref01_Flag.f x2).bind fun t193 => (if (strOfNums t190).toList = (strOfNums t193).toList then (gW.j1 k x0 x3 x4 x5 x6 x7 x8 x9 x10 t175 ((strOfNums t175).toList != (strOfNums x10).toList)) else (none)))) else (none)))) else (none))) else (none))))
def gW.j1 : Nat → Int → List Int → List (List Int) → List Int → List Int → List Int → List Int → List Int → List Int → List Int → Bool → Option (Bool)
  | 0, _, _, _, _, _, _, _, _, _, _, _ => none
  | k + 1, x0, x3, x4, x5, x6, x7, x8, x9, x10, x12, x96 => if x96 = true then (none) else ((garnerlaw01_spoil.f k x6).bind fun _ => ((garnerlaw01_spoil.f k x8).bind fun _ => ((garnerlaw01_spoil.f k x12).bind fun _ => (gW.l1 k x0 x3 x4 x5 x7 x9 x10 0 0))))
def gW.l1 : Nat → Int → List Int → List (List Int) → List Int → List Int → List Int → List Int → Int → Int → Option (Bool)
  | 0, _, _, _, _, _, _, _, _, _ => none
  | k + 1, x0, x3, x4, x5, x7, x9, x10, x13, x14 => if x13 < (x4.length : Int) then (if 0 ≤ x13 then (if 0 ≤ x14 then (if x14 ≤ (wrap64 (x14 + ((rd_L1 x4 x13).length : Int))) then (if (wrap64 (x14 + ((rd_L1 x4 x13).length : Int))) ≤ (x10.length : Int) then (if (strOfNums (rd_L1 x4 x13)).toList = (strOfNums ((x10.take ((wrap64 (x14 + ((rd_L1 x4 x13).length : Int))) : Int).toNat).drop (x14 : Int).toNat)).toList then (gW.l1 k x0 x3 x4 x5 x7 x9 x10 (wrap64 (x13 + 1)) (wrap64 (x14 + ((rd_L1 x4 x13).length : Int)))) else (none)) else (none)) else (none)) else (none)) else (none)) else ((garnerref01_Bytes.f k x3).bind fun t203 => (if (strOfNums x7).toList = (strOfNums t203).toList then ((garnerref01_Number.f k x0).bind fun t206 => (if (strOfNums x9).toList = (strOfNums t206).toList then (if (strOfNums x3).size + 1 ≤ 9223372036854775807 then (if (strOfNums x5).toList = ((strOfNums x3) ++ (⟨#[119]⟩ : ByteArray)).toList then ((garnerlaw01_known.f).bind fun t209 => (some t209)) else (none)) else (none)) else (none))) else (none)))
end
def gW.f (k : Nat) (a0 : Int) (a1 : Int) (a2 : Bool) (l3 : List Int) (l4 : List (List Int)) : Option (Bool) := if ([] : List Int).length + l3.length < 140737488355328 then ((some (([] : List Int) ++ l3 : List Int)).bind fun y149 => (if y149.length < 140737488355328 then ((some (y149 ++ [119] : List Int)).bind fun y152 => (if 0 ≤ (l3.length : Int) then (if (l3.length : Int) ≤ (y152.length : Int) then ((some (y152.take ((l3.length : Int) : Int).toNat : List Int)).bind fun y155 => ((wire_Bytes.f y155).bind fun t159 => ((wire_Bytes.f y155).bind fun t162 => ((wire_Number.f a0).bind fun t165 => ((wire_Number.f a0).bind fun t168 => (gW.l0 k a0 a1 a2 l3 l4 y152 t159 t162 t165 t168 ([] : List Int) 0)))))) else (none)) else (none))) else (none))) else (none)
theorem gW.mono_l : ∀ k, (∀ y0 y1 y2 y3 y4 y5 y6 y7 y8 y9 y10 y11, LeO (gW.l0 k y0 y1 y2 y3 y4 y5 y6 y7 y8 y9 y10 y11) (gW.l0 (k + 1) y0 y1 y2 y3 y4 y5 y6 y7 y8 y9 y10 y11)) ∧ (∀ y0 y1 y2 y3 y4 y5 y6 y7 y8 y9 y10, LeO (gW.j1 k y0 y1 y2 y3 y4 y5 y6 y7 y8 y9 y10) (gW.j1 (k + 1) y0 y1 y2 y3 y4 y5 y6 y7 y8 y9 y10)) ∧ (∀ y0 y1 y2 y3 y4 y5 y6 y7 y8, LeO (gW.l1 k y0 y1 y2 y3 y4 y5 y6 y7 y8) (gW.l1 (k + 1) y0 y1 y2 y3 y4 y5 y6 y7 y8))
  | 0 => ⟨fun _ _ _ _ _ _ _ _ _ _ _ _ r h => by simp [gW.l0] at h, fun _ _ _ _ _ _ _ _ _ _ _ r h => by simp [gW.j1] at h, fun _ _ _ _ _ _ _ _ _ r h => by simp [gW.l1] at h⟩
  | k + 1 => by
    obtain ⟨ih0, ih1, ih2⟩ := gW.mono_l k
    refine ⟨?_, ?_, ?_⟩
    · intro y0 y1 y2 y3 y4 y5 y6 y7 y8 y9 y10 y11
      unfold gW.l0
      repeat' first
      | (with_reducible exact ih0 _ _ _ _ _ _ _ _ _ _ _ _)
      | (with_reducible exact ih1 _ _ _ _ _ _ _ _ _ _ _)
      | (with_reducible exact ih2 _ _ _ _ _ _ _ _ _)
      | (with_reducible exact garnerlaw01_spoil.mono _ _)
      | (with_reducible exact garnerref01_Bytes.mono _ _)
      | (with_reducible exact garnerref01_Number.mono _ _)
      | (with_reducible exact garnerref01_Signed.mono _ _)
      | (with_reducible exact wire_Join.mono _ _)
      | (with_reducible exact LeO.refl _)
      | (with_reducible exact LeO.none _)
      | (with_reducible refine LeO.ite ?_ ?_)
      | (with_reducible refine LeO.bind ?_ (fun _ => ?_))
      | exact ih0 _ _ _ _ _ _ _ _ _ _ _ _
      | exact ih1 _ _ _ _ _ _ _ _ _ _ _
      | exact ih2 _ _ _ _ _ _ _ _ _
      | exact garnerlaw01_spoil.mono _ _
      | exact garnerref01_Bytes.mono _ _
      | exact garnerref01_Number.mono _ _
      | exact garnerref01_Signed.mono _ _
      | exact wire_Join.mono _ _
      | exact LeO.none _
      | refine LeO.ite ?_ ?_
      | refine LeO.bind ?_ (fun _ => ?_)
    · intro y0 y1 y2 y3 y4 y5 y6 y7 y8 y9 y10
      unfold gW.j1
      repeat' first
      | (with_reducible exact ih0 _ _ _ _ _ _ _ _ _ _ _ _)
      | (with_reducible exact ih1 _ _ _ _ _ _ _ _ _ _ _)
      | (with_reducible exact ih2 _ _ _ _ _ _ _ _ _)
      | (with_reducible exact garnerlaw01_spoil.mono _ _)
      | (with_reducible exact garnerref01_Bytes.mono _ _)
      | (with_reducible exact garnerref01_Number.mono _ _)
      | (with_reducible exact garnerref01_Signed.mono _ _)
      | (with_reducible exact wire_Join.mono _ _)
      | (with_reducible exact LeO.refl _)
      | (with_reducible exact LeO.none _)
      | (with_reducible refine LeO.ite ?_ ?_)
      | (with_reducible refine LeO.bind ?_ (fun _ => ?_))
      | exact ih0 _ _ _ _ _ _ _ _ _ _ _ _
      | exact ih1 _ _ _ _ _ _ _ _ _ _ _
      | exact ih2 _ _ _ _ _ _ _ _ _
      | exact garnerlaw01_spoil.mono _ _
      | exact garnerref01_Bytes.mono _ _
      | exact garnerref01_Number.mono _ _
      | exact garnerref01_Signed.mono _ _
      | exact wire_Join.mono _ _
      | exact LeO.none _
      | refine LeO.ite ?_ ?_
      | refine LeO.bind ?_ (fun _ => ?_)
    · intro y0 y1 y2 y3 y4 y5 y6 y7 y8
      unfold gW.l1
      repeat' first
      | (with_reducible exact ih0 _ _ _ _ _ _ _ _ _ _ _ _)
      | (with_reducible exact ih1 _ _ _ _ _ _ _ _ _ _ _)
      | (with_reducible exact ih2 _ _ _ _ _ _ _ _ _)
      | (with_reducible exact garnerlaw01_spoil.mono _ _)
      | (with_reducible exact garnerref01_Bytes.mono _ _)
      | (with_reducible exact garnerref01_Number.mono _ _)
      | (with_reducible exact garnerref01_Signed.mono _ _)
      | (with_reducible exact wire_Join.mono _ _)
      | (with_reducible exact LeO.refl _)
      | (with_reducible exact LeO.none _)
      | (with_reducible refine LeO.ite ?_ ?_)
      | (with_reducible refine LeO.bind ?_ (fun _ => ?_))
      | exact ih0 _ _ _ _ _ _ _ _ _ _ _ _
      | exact ih1 _ _ _ _ _ _ _ _ _ _ _
      | exact ih2 _ _ _ _ _ _ _ _ _
      | exact garnerlaw01_spoil.mono _ _
      | exact garnerref01_Bytes.mono _ _
      | exact garnerref01_Number.mono _ _
      | exact garnerref01_Signed.mono _ _
      | exact wire_Join.mono _ _
      | exact LeO.none _
      | refine LeO.ite ?_ ?_
      | refine LeO.bind ?_ (fun _ => ?_)
theorem gW.mono : ∀ a0 a1 a2 a3 a4 k, LeO (gW.f k a0 a1 a2 a3 a4) (gW.f (k + 1) a0 a1 a2 a3 a4) := by
  intro a0 a1 a2 a3 a4 k
  obtain ⟨ih0, ih1, ih2⟩ := gW.mono_l k
  unfold gW.f
  repeat' first
      | (with_reducible exact ih0 _ _ _ _ _ _ _ _ _ _ _ _)
      | (with_reducible exact ih1 _ _ _ _ _ _ _ _ _ _ _)
      | (with_reducible exact ih2 _ _ _ _ _ _ _ _ _)
      | (with_reducible exact garnerlaw01_spoil.mono _ _)
      | (with_reducible exact garnerref01_Bytes.mono _ _)
      | (with_reducible exact garnerref01_Number.mono _ _)
      | (with_reducible exact garnerref01_Signed.mono _ _)
      | (with_reducible exact wire_Join.mono _ _)
      | (with_reducible exact LeO.refl _)
      | (with_reducible exact LeO.none _)
      | (with_reducible refine LeO.ite ?_ ?_)
      | (with_reducible refine LeO.bind ?_ (fun _ => ?_))
      | exact ih0 _ _ _ _ _ _ _ _ _ _ _ _
      | exact ih1 _ _ _ _ _ _ _ _ _ _ _
      | exact ih2 _ _ _ _ _ _ _ _ _
      | exact garnerlaw01_spoil.mono _ _
      | exact garnerref01_Bytes.mono _ _
      | exact garnerref01_Number.mono _ _
      | exact garnerref01_Signed.mono _ _
      | exact wire_Join.mono _ _
      | exact LeO.none _
      | refine LeO.ite ?_ ?_
      | refine LeO.bind ?_ (fun _ => ?_)
def gW.T2 : Bool × List (List Nat × List Nat) := (true, [([], []), ([], []), ([1], [1]), ([2], [2]), ([0, 3], [0, 3]), ([4], [4]), ([], []), ([], []), ([7], [7]), ([8], [8]), ([6, 9], [6, 9]), ([10, 5], [10]), ([5, 11, 0, 1, 2, 3, 4, 5], [5]), ([11, 12, 0, 1, 2, 3, 4, 5, 6, 7, 8, 9, 10, 11, 12], [11])])
def gW.B2 : List Nat := [0, 0, 2, 6, 15, 31, 0, 0, 128, 384, 960, 2047, 4095, 8191]
theorem gW.tab2 : rtab .any (opsOf Try.f3 2) = gW.T2 := by kernel_rfl
theorem gW.bits2 : waitsOk gW.T2.2 gW.B2 = true := by kernel_rfl
def gW.T3 : Bool × List (List Nat × List Nat) := (true, [([], []), ([0], [0]), ([1], [1]), ([], []), ([3], [3]), ([4, 2], [4]), ([2, 5, 0, 1, 2], [2]), ([5, 6, 0, 1, 2, 3, 4, 5, 6], [5])])
def gW.B3 : List Nat := [0, 1, 3, 0, 8, 31, 63, 127]
theorem gW.tab3 : rtab .any (opsOf Try.f3 3) = gW.T3 := by kernel_rfl
theorem gW.bits3 : waitsOk gW.T3.2 gW.B3 = true := by kernel_rfl
def gW.T10 : Bool × List (List Nat × List Nat) := (true, [([], []), ([0], [0]), ([], []), ([2], [2]), ([3], [3]), ([4], [4]), ([1, 5], [1, 5]), ([6, 4], [6]), ([7], [7]), ([8, 7], [7, 8]), ([7], [7]), ([10, 7], [7, 10]), ([11, 7, 7], [7, 11]), ([12, 7], [7, 12]), ([9, 13, 7], [7, 9, 13]), ([7, 14], [7, 14]), ([15, 12], [15]), ([16], [16]), ([17, 16], [16, 17]), ([18, 16, 16], [16, 18]), ([19, 16], [16, 19]), ([16], [16]), ([21, 16], [16, 21]), ([22, 19, 16], [16, 22]), ([23, 16], [16, 23]), ([20, 24, 16], [16, 20, 24]), ([16, 25], [16, 25]), ([26, 23], [26]), ([27], [27]), ([28, 27], [27, 28]), ([29, 27, 27], [27, 29]), ([30, 27], [27, 30]), ([27], [27]), ([32, 27], [27, 32]), ([33, 30, 27], [27, 33]), ([34, 27], [27, 34]), ([31, 35, 27], [27, 31, 35]), ([27, 36], [27, 36]), ([37, 34], [37]), ([38], [38]), ([39, 38], [38, 39]), ([38], [38]), ([41, 38], [38, 41]), ([40, 42, 38], [38, 40, 42]), ([38, 43], [38, 43])])
def gW.B10 : List Nat := [0, 1, 0, 4, 12, 28, 63, 127, 255, 511, 255, 1279, 3327, 7423, 16383, 32767, 65535, 131071, 262143, 524287, 1048575, 131071, 2228223, 7340031, 15728639, 33554431, 67108863, 134217727, 268435455, 536870911, 1073741823, 2147483647, 268435455, 4563402751, 15032385535, 32212254719, 68719476735, 137438953471, 274877906943, 549755813887, 1099511627775, 549755813887, 2748779069439, 8796093022207, 17592186044415]
theorem gW.tab10 : rtab .any (opsOf Try.f3 10) = gW.T10 := by kernel_rfl
theorem gW.bits10 : waitsOk gW.T10.2 gW.B10 = true := by kernel_rfl
def gW.T18 : Bool × List (List Nat × List Nat) := (true, [([], []), ([], []), ([0, 1], [0, 1]), ([2], [2]), ([3], [3]), ([], []), ([], []), ([], []), ([], []), ([], []), ([8, 9], [8, 9]), ([10], [10]), ([11], [11]), ([7, 12], [7, 12]), ([5, 6, 13], [5, 6, 13]), ([14], [14]), ([4, 15], [4, 15])])
def gW.B18 : List Nat := [0, 0, 3, 7, 15, 0, 0, 0, 0, 0, 768, 1792, 3840, 8064, 16352, 32736, 65535]
theorem gW.tab18 : rtab .any (opsOf Try.f3 18) = gW.T18 := by kernel_rfl
theorem gW.bits18 : waitsOk gW.T18.2 gW.B18 = true := by kernel_rfl
def gW.T21 : Bool × List (List Nat × List Nat) := (true, [([], []), ([0], [0]), ([], []), ([2], [2]), ([3], [3]), ([4], [4]), ([1, 5], [1, 5]), ([6, 4], [6]), ([7], [7]), ([8, 7], [7, 8]), ([7], [7]), ([10, 7], [7, 10]), ([11, 7, 7], [7, 11]), ([12, 7], [7, 12]), ([9, 13, 7], [7, 9, 13]), ([7, 14], [7, 14]), ([15, 12], [15]), ([16], [16]), ([17, 16], [16, 17]), ([16], [16]), ([19, 16], [16, 19]), ([20, 16], [16, 20]), ([21, 16], [16, 21]), ([18, 22, 16], [16, 18, 22]), ([16, 23], [16, 23]), ([24, 16], [24]), ([25, 25], [25]), ([25, 26], [25, 26]), ([27, 26, 0, 1, 2, 3, 4, 5, 6, 7, 8, 9, 10, 11, 12, 13, 14, 15, 16, 17, 18, 19, 20, 21, 22, 23, 24, 25, 26, 27], [27])])
def gW.B21 : List Nat := [0, 1, 0, 4, 12, 28, 63, 127, 255, 511, 255, 1279, 3327, 7423, 16383, 32767, 65535, 131071, 262143, 131071, 655359, 1703935, 3801087, 8388607, 16777215, 33554431, 67108863, 134217727, 268435455]
theorem gW.tab21 : rtab .any (opsOf Try.f3 21) = gW.T21 := by kernel_rfl
theorem gW.bits21 : waitsOk gW.T21.2 gW.B21 = true := by kernel_rfl
theorem q1_ {α : Type} (l : List α) (i : Nat) (a : α) : l.toArray.setIfInBounds i a = (l.set i a).toArray := List.setIfInBounds_toArray l i a
theorem q2_ {α : Type} (x : α) (l : List α) (a : α) : (x :: l).set 0 a = a :: l := List.set_cons_zero
theorem q3_ {α : Type} (x : α) (l : List α) (n : Nat) (a : α) : (x :: l).set (n + 1) a = x :: l.set n a := List.set_cons_succ
abbrev i1 : Bool := true
abbrev i0 : Bool := false
theorem gW.kept_cell {w w' : World} (hb : Below w.heap.size w w') {a : Addr} {v : Value} (h : w.cell? a = some v) : w'.cell? a = some v := (hb.cell (World.block_lt_of_cell? w a h)).trans h
theorem gW.kept4 {w w' : World} (hb : Below w.heap.size w w') {a b c d : Addr} {p q r s : Value} (h : w.cell? a = some p ∧ w.cell? b = some q ∧ w.cell? c = some r ∧ w.cell? d = some s) : w'.cell? a = some p ∧ w'.cell? b = some q ∧ w'.cell? c = some r ∧ w'.cell? d = some s := ⟨gW.kept_cell hb h.1, gW.kept_cell hb h.2.1, gW.kept_cell hb h.2.2.1, gW.kept_cell hb h.2.2.2⟩
theorem gW.stronger_ {P : Program} {md : Region.Mode} {ops : Array Oper} {Q : Exit → Act → World → Prop} {S S' : World → Prop} (hS : ∀ w, S' w → S w) : ∀ {fuel : Nat} {l : Array Bool} {a : Act} {w : World}, S' w → wpAnyLast P md ops Q S' [] fuel l a w → wpAnyLast P md ops Q S [] fuel l a w
  | 0, _, _, _, _, h => h
  | fuel + 1, _, _, _, hw, h => ⟨h.1, fun i hi => wpOp_mono (fun a' w' h' => ⟨fun _ _ => hS _ (h'.1 (by simp) hw), gW.stronger_ hS (h'.1 (by simp) hw) h'.2⟩) (h.2 i hi)⟩
theorem gW.ok1 {a b c d e f g h i j k l : Nat → Prop} (n : Nat) (hk : (((((((a n ∧ b n ∧ c n ∧ d n ∧ e n) ∧ f n) ∧ g n) ∧ h n) ∧ i n) ∧ j n) ∧ k n) ∧ l n) : a n ∧ b n ∧ c n ∧ d n ∧ e n ∧ f n := ⟨hk.1.1.1.1.1.1.1.1, hk.1.1.1.1.1.1.1.2.1, hk.1.1.1.1.1.1.1.2.2.1, hk.1.1.1.1.1.1.1.2.2.2.1, hk.1.1.1.1.1.1.1.2.2.2.2, hk.1.1.1.1.1.1.2⟩
theorem gW.ok2 {a b c d e f g h i j k l : Nat → Prop} (n : Nat) (hk : (((((((((((True ∧ a n) ∧ b n) ∧ c n) ∧ d n) ∧ e n) ∧ f n) ∧ g n) ∧ h n) ∧ i n) ∧ j n) ∧ k n) ∧ l n) : a n ∧ b n ∧ c n ∧ d n ∧ e n ∧ f n := ⟨hk.1.1.1.1.1.1.1.1.1.1.1.2, hk.1.1.1.1.1.1.1.1.1.1.2, hk.1.1.1.1.1.1.1.1.1.2, hk.1.1.1.1.1.1.1.1.2, hk.1.1.1.1.1.1.1.2, hk.1.1.1.1.1.1.2⟩
set_option maxHeartbeats 16000000 in
set_option maxRecDepth 100000 in
theorem gW.calls (k : Nat) (a0 : Int) (a1 : Int) (a2 : Bool) (A3 : Option Addr) (c3 : Nat) (l3 : List Int) (A4 : Option Addr) (c4 : Nat) (l4 : List (List Int)) (r : Bool) (wz : World) (hr3 : Kd.C (Kd.int .u8) wz A3 l3.length l3) (hc3 : l3.length ≤ c3) (hr4 : Kd.C (Kd.slice 5 (Kd.int .u8)) wz A4 l4.length l4) (hc4 : l4.length ≤ c4) (h : gW.f k a0 a1 a2 l3 l4 = some r) :
    Calls Try.prog 3 #[.agg #[.int .u64 a0, .int .i64 a1, .bool a2, .slice A3 l3.length c3], .slice A4 l4.length c4] wz fun e w' => e = .returned (.bool r) ∧ Below wz.heap.size wz w' := by
  have hu25 := Try.underlying25
  have HR3 := Aside0.mk hr3
  have HC3 := Aside0.mk hc3
  clear hr3 hc3
  have HR4 := Aside0.mk hr4
  have HC4 := Aside0.mk hc4
  clear hr4 hc4
  have H : (if ([] : List Int).length + l3.length < 140737488355328 then ((some (([] : List Int) ++ l3 : List Int)).bind fun y149 => (if y149.length < 140737488355328 then ((some (y149 ++ [119] : List Int)).bind fun y152 => (if 0 ≤ (l3.length : Int) then (if (l3.length : Int) ≤ (y152.length : Int) then ((some (y152.take ((l3.length : Int) : Int).toNat : List Int)).bind fun y155 => ((wire_Bytes.f y155).bind fun t159 => ((wire_Bytes.f y155).bind fun t162 => ((wire_Number.f a0).bind fun t165 => ((wire_Number.f a0).bind fun t168 => (gW.l0 k a0 a1 a2 l3 l4 y152 t159 t162 t165 t168 ([] : List Int) 0)))))) else (none)) else (none))) else (none))) else (none)) = some r := h
  clear h
  have c6 : ([] : List Int).length + l3.length < 140737488355328 := Classical.byContradiction fun h_ => by rw [if_neg h_] at H; exact absurd H (by simp)
  rw [if_pos c6] at H
  have LMc6 := Aside0.mk c6
  clear c6
  obtain ⟨y149, hy149⟩ : ∃ y_ : List Int, y_ = (([] : List Int) ++ l3) := ⟨_, rfl⟩
  replace H : (if y149.length < 140737488355328 then ((some (y149 ++ [119] : List Int)).bind fun y152 => (if 0 ≤ (l3.length : Int) then (if (l3.length : Int) ≤ (y152.length : Int) then ((some (y152.take ((l3.length : Int) : Int).toNat : List Int)).bind fun y155 => ((wire_Bytes.f y155).bind fun t159 => ((wire_Bytes.f y155).bind fun t162 => ((wire_Number.f a0).bind fun t165 => ((wire_Number.f a0).bind fun t168 => (gW.l0 k a0 a1 a2 l3 l4 y152 t159 t162 t165 t168 ([] : List Int) 0)))))) else (none)) else (none))) else (none)) = some r := by first | (rw [hy149]; with_reducible exact H) | (have H2_ := (Option.bind_some _ _).symm.trans H; rw [hy149]; with_reducible exact H2_) | (have H2_ := (Option.bind_some _ _).symm.trans H; with_reducible exact H2_) | with_reducible exact H | (rw [hy149]; exact H) | exact H
  have Ny149 := Aside0.mk hy149
  clear hy149
  have c7 : y149.length < 140737488355328 := Classical.byContradiction fun h_ => by rw [if_neg h_] at H; exact absurd H (by simp)
  rw [if_pos c7] at H
  have LMc7 := Aside0.mk c7
  clear c7
  obtain ⟨y152, hy152⟩ : ∃ y_ : List Int, y_ = (y149 ++ [119]) := ⟨_, rfl⟩
  replace H : (if 0 ≤ (l3.length : Int) then (if (l3.length : Int) ≤ (y152.length : Int) then ((some (y152.take ((l3.length : Int) : Int).toNat : List Int)).bind fun y155 => ((wire_Bytes.f y155).bind fun t159 => ((wire_Bytes.f y155).bind fun t162 => ((wire_Number.f a0).bind fun t165 => ((wire_Number.f a0).bind fun t168 => (gW.l0 k a0 a1 a2 l3 l4 y152 t159 t162 t165 t168 ([] : List Int) 0)))))) else (none)) else (none)) = some r := by first | (rw [hy152]; with_reducible exact H) | (have H2_ := (Option.bind_some _ _).symm.trans H; rw [hy152]; with_reducible exact H2_) | (have H2_ := (Option.bind_some _ _).symm.trans H; with_reducible exact H2_) | with_reducible exact H | (rw [hy152]; exact H) | exact H
  have Ny152 := Aside0.mk hy152
  clear hy152
  have c8 : 0 ≤ (l3.length : Int) := Classical.byContradiction fun h_ => by rw [if_neg h_] at H; exact absurd H (by simp)
  rw [if_pos c8] at H
  have c8b0 := eq_true c8
  have c8b1 : decide (0 ≤ (l3.length : Int)) = true := decide_eq_true c8
  clear c8
  have c9 : (l3.length : Int) ≤ (y152.length : Int) := Classical.byContradiction fun h_ => by rw [if_neg h_] at H; exact absurd H (by simp)
  rw [if_pos c9] at H
  have c9b0 := eq_true c9
  have c9b1 : decide ((l3.length : Int) ≤ (y152.length : Int)) = true := decide_eq_true c9
  clear c9
  obtain ⟨y155, hy155⟩ : ∃ y_ : List Int, y_ = (y152.take ((l3.length : Int) : Int).toNat) := ⟨_, rfl⟩
  replace H : ((wire_Bytes.f y155).bind fun t159 => ((wire_Bytes.f y155).bind fun t162 => ((wire_Number.f a0).bind fun t165 => ((wire_Number.f a0).bind fun t168 => (gW.l0 k a0 a1 a2 l3 l4 y152 t159 t162 t165 t168 ([] : List Int) 0))))) = some r := by first | (rw [hy155]; with_reducible exact H) | (have H2_ := (Option.bind_some _ _).symm.trans H; rw [hy155]; with_reducible exact H2_) | (have H2_ := (Option.bind_some _ _).symm.trans H; with_reducible exact H2_) | with_reducible exact H | (rw [hy155]; exact H) | exact H
  have Ny155 := Aside0.mk hy155
  clear hy155
  replace H := Option.bind_eq_some_iff.mp H
  obtain ⟨t159, A100, H⟩ := H
  replace H : ((wire_Bytes.f y155).bind fun t162 => ((wire_Number.f a0).bind fun t165 => ((wire_Number.f a0).bind fun t168 => (gW.l0 k a0 a1 a2 l3 l4 y152 t159 t162 t165 t168 ([] : List Int) 0)))) = some r := H
  have A10 := Aside0.mk A100
  clear A100
  replace H := Option.bind_eq_some_iff.mp H
  obtain ⟨t162, A110, H⟩ := H
  replace H : ((wire_Number.f a0).bind fun t165 => ((wire_Number.f a0).bind fun t168 => (gW.l0 k a0 a1 a2 l3 l4 y152 t159 t162 t165 t168 ([] : List Int) 0))) = some r := H
  have A11 := Aside0.mk A110
  clear A110
  replace H := Option.bind_eq_some_iff.mp H
  obtain ⟨t165, A120, H⟩ := H
  replace H : ((wire_Number.f a0).bind fun t168 => (gW.l0 k a0 a1 a2 l3 l4 y152 t159 t162 t165 t168 ([] : List Int) 0)) = some r := H
  have A12 := Aside0.mk A120
  clear A120
  replace H := Option.bind_eq_some_iff.mp H
  obtain ⟨t168, A130, H⟩ := H
  replace H : (gW.l0 k a0 a1 a2 l3 l4 y152 t159 t162 t165 t168 ([] : List Int) 0) = some r := H
  have A13 := Aside0.mk A130
  clear A130
  have H' := Aside0.mk H
  clear H
  go_enter Try.func3, Try.ntmps3
  go_upto_region 1 with (fail)
  have hbx := blk_new wz (.cells #[.int .u64 a0, .int .i64 a1, .bool a2, .slice A3 l3.length c3] 25)
  have HX := Aside0.mk (show (wz.alloc (.cells #[.int .u64 a0, .int .i64 a1, .bool a2, .slice A3 l3.length c3] 25)).cell? ⟨wz.heap.size, 0, none⟩ = some (.int .u64 a0) ∧ (wz.alloc (.cells #[.int .u64 a0, .int .i64 a1, .bool a2, .slice A3 l3.length c3] 25)).cell? ⟨wz.heap.size, 1, none⟩ = some (.int .i64 a1) ∧ (wz.alloc (.cells #[.int .u64 a0, .int .i64 a1, .bool a2, .slice A3 l3.length c3] 25)).cell? ⟨wz.heap.size, 2, none⟩ = some (.bool a2) ∧ (wz.alloc (.cells #[.int .u64 a0, .int .i64 a1, .bool a2, .slice A3 l3.length c3] 25)).cell? ⟨wz.heap.size, 3, none⟩ = some (.slice A3 l3.length c3) from ⟨(blk_cell hbx 0).trans rfl, (blk_cell hbx 1).trans rfl, (blk_cell hbx 2).trans rfl, (blk_cell hbx 3).trans rfl⟩)
  have HZ := Aside0.mk (below_alloc (Below.refl wz.heap.size wz) (.cells #[.int .u64 a0, .int .i64 a1, .bool a2, .slice A3 l3.length c3] 25))
  clear hbx
  generalize wz.alloc (.cells #[.int .u64 a0, .int .i64 a1, .bool a2, .slice A3 l3.length c3] 25) = w at HX HZ ⊢
  replace HR3 := Aside0.mk (Kd.C_below HR3.out HZ.out)
  replace HR4 := Aside0.mk (Kd.C_below HR4.out HZ.out)
  have HB := Aside0.mk (Below.refl w.heap.size w)
  have hx16 := HX.out.2.2.2
  try go_wp2_with (first | ((with_reducible refine gate_builtin (b := .append) (xs := #[.const (.slice none 0 0), .tmp 16]) rfl ?_); at_builtin; refine Kd.R_append_rows (Kd.int .u8) (w0 := w) w.heap.size rfl (.const (.slice none 0 0)) (.tmp 16) 23 5 (.int .u8 0) 1 rfl Try.underlying23 info5 rfl (by decide) (by omega) (.slice none 0 0) ([] : List Int) l3 _ _ _ (fun _ => True) (fun _ => False) rfl rfl ?aO ?aR (fun _ _ h => h) (fun _ h => h.elim) ?aF ?aB ?aS ?aL ?_; (case aR => repeat (first | exact HR3.out | (with_reducible refine Kd.C_alloc ?_ _) | (with_reducible refine Kd.C_drewN ?_ _) | (with_reducible refine Kd.C_drew ?_))); (case aB => exact (by repeat (first | (with_reducible first | exact HB.out | apply below_alloc | apply pw_below_drewN | apply below_drew1) | exact HB.out))); (case aF => exact (fun _ _ => trivial)); (case aO => exact ((Kd.R_nil _ _ _ _ (fun _ => True)))); (case aS => exact (below_size (by repeat (first | (with_reducible first | exact HB.out | apply below_alloc | apply pw_below_drewN | apply below_drew1) | exact HB.out)))); (case aL => have := LMc6.out; omega); intro v150 w14 ho hb hg hat; rw [← Ny149.out] at ho; have n0_ := Aside0.mk (hb); have n1_ := Aside0.mk (ho); clear HB; have HB := n0_; have HO151 := n1_; clear n0_ n1_; clear ho hb hg hat) | ((with_reducible refine gate_builtin (b := .append) (xs := #[.tmp 17, .tmp 18]) rfl ?_); at_builtin; refine Kd.R_append (Kd.int .u8) (w0 := w) w.heap.size rfl (.tmp 17) (.tmp 18) 23 5 (.int .u8 0) 1 rfl Try.underlying23 info5 rfl (by decide) (by omega) v150 y149 119 [.int .u8 119] (fun _ => True) (fun _ => False) rfl rfl ?aP (fun _ hk => hk.elim) ?aF ?aO ?aB ?aS ?aL ?_; (case aP => exact rfl); (case aB => exact (by repeat (first | (with_reducible first | exact HB.out | apply below_alloc | apply pw_below_drewN | apply below_drew1) | exact HB.out))); (case aF => exact (fun _ _ => trivial)); (case aO => exact (by (with_reducible repeat (first | apply Kd.R_alloc | apply Kd.R_drewN | apply Kd.R_drew)); exact HO151.out)); (case aS => exact (below_size (by repeat (first | (with_reducible first | exact HB.out | apply below_alloc | apply pw_below_drewN | apply below_drew1) | exact HB.out)))); (case aL => have := LMc7.out; omega); intro v153 w15 ho hb hg hat; rw [← Ny152.out] at ho; have n0_ := Aside0.mk (hb); have n1_ := Aside0.mk (ho); clear HB; clear HO151; have HB := n0_; have HO154 := n1_; clear n0_ n1_; clear ho hb hg hat))
  have n0_ := Aside0.mk (Kd.R_drew HO154.out)
  have n1_ := Aside0.mk (below_drew1 HB.out)
  clear HO154
  clear HB
  have HO154 := n0_
  have HB := n1_
  clear n0_ n1_
  obtain ⟨Ao18, co18, eo18⟩ := Kd.R_slice HO154.out
  (first | subst eo18 | (injection eo18 with f1_ f2_ f3_; have f4_ := f1_.symm; have f5_ := f3_.symm; clear f1_ f2_ f3_; subst f4_; subst f5_))
  have q17 : ((l3.length : Int) : Int) ≤ ((y152.length : Int) : Int) := of_decide_eq_true (by first | (with_reducible assumption) | assumption)
  obtain ⟨i017, hi017, _, hsz17, _⟩ := info_parts info5
  have hroom17 : y152.length ≤ co18 := (Kd.R_reads' HO154.out).2.1
  have hC17 : Kd.C (Kd.int .u8) _ Ao18 y152.length y152 := (Kd.R_reads' HO154.out).2.2
  have hcut17 := cut_to (P := Try.prog) 23 5 .i64 Try.underlying23 hi017 Ao18 y152.length co18 (l3.length : Int) (of_decide_eq_true (by first | (with_reducible assumption) | assumption)) q17 hroom17
  have hr17 := Kd.C_take (m := ((l3.length : Int) : Int).toNat) hC17 (by omega)
  have hy17 : y155.length = ((l3.length : Int) : Int).toNat := (by rw [Ny155.out, List.length_take]; omega)
  rw [← Ny155.out] at hr17
  rw [← hy17] at hcut17
  have HR158 := Aside0.mk hr17
  have HC158 := Aside0.mk (show y155.length ≤ co18 from by omega)
  clear hr17 hC17 hroom17 hi017 hsz17
  have KY17 := Aside0.mk hy17
  clear hy17
  have KL17 := Aside0.mk (show ((l3.length : Int) : Int).toNat ≤ y152.length from by omega)
  replace q17 := eq_true q17
  (try (have q17d := q17; simp only [List.length_drop, List.length_take] at q17d))
  refine start_ (n := 14) (S := fun w' => w'.cell? ⟨wz.heap.size, 0, none⟩ = some (.int .u64 a0) ∧ w'.cell? ⟨wz.heap.size, 1, none⟩ = some (.int .i64 a1) ∧ w'.cell? ⟨wz.heap.size, 2, none⟩ = some (.bool a2) ∧ w'.cell? ⟨wz.heap.size, 3, none⟩ = some (.slice A3 l3.length c3)) (ds := []) #[i0,i0,i0,i0,i0,i0,i0,i0,i0,i0,i0,i0,i0,i0] (by kernel_rfl) rfl rfl (gW.kept4 HB.out HX.out) (fun hHeld => ?_); refine with_tabW gW.tab2 gW.bits2 (fun HT_ HW_ => ?_)
  generalize w15.drew = w16 at HO154 HB HR158 hHeld ⊢
  refine pure_ (i := 0) (N := some 20) (v := ?_) (a' := ?_) #[i1,i0,i0,i0,i0,i0,i0,i0,i0,i0,i0,i0,i0,i0] rfl rfl (any_of HT_.out (by kernel_rfl)) (fun _ _ _ h => h) (Or.inl ⟨by rfl, ?_⟩) ?_ ?_
  rotate_left; · intro w'; go_simp; with_reducible rfl
  rotate_left; · simp only [Act.put, q1_, q2_, q3_, i64_w, i32_w]; rfl
  refine pure_ (i := 1) (N := some 21) (v := ?_) (a' := ?_) #[i1,i1,i0,i0,i0,i0,i0,i0,i0,i0,i0,i0,i0,i0] rfl rfl (any_of HT_.out (by kernel_rfl)) (fun _ _ _ h => h) (Or.inl ⟨by rfl, ?_⟩) ?_ ?_
  rotate_left; · intro w'; go_simp; with_reducible rfl
  rotate_left; · simp only [Act.put, q1_, q2_, q3_, i64_w, i32_w]; rfl
  refine take_ (i := 2) (N := some 22) (v := ?_) (a' := ?_) #[i1,i1,i1,i0,i0,i0,i0,i0,i0,i0,i0,i0,i0,i0] rfl rfl (take_ofW HT_.out HW_.out (by kernel_rfl)) (fun _ _ _ h => h) (Or.inl ⟨by rfl, ?_⟩) hHeld ?_ ?_
  rotate_left; · rintro w' ⟨s0, s1, s2, s3⟩; go_simp; with_reducible rfl
  rotate_left; · simp only [Act.put, q1_, q2_, q3_, i64_w, i32_w]; rfl
  refine pure_ (i := 3) (N := some 23) (v := ?_) (a' := ?_) #[i1,i1,i1,i1,i0,i0,i0,i0,i0,i0,i0,i0,i0,i0] rfl rfl (any_of HT_.out (by kernel_rfl)) (fun _ _ _ h => h) (Or.inl ⟨by rfl, ?_⟩) ?_ ?_
  rotate_left; · intro w'; go_simp; with_reducible rfl
  rotate_left; · simp only [Act.put, q1_, q2_, q3_, i64_w, i32_w]; rfl
  refine pure_ (i := 4) (N := some 24) (v := ?_) (a' := ?_) #[i1,i1,i1,i1,i1,i0,i0,i0,i0,i0,i0,i0,i0,i0] rfl rfl (any_of HT_.out (by kernel_rfl)) (fun _ _ _ h => h) (Or.inl ⟨by rfl, ?_⟩) ?_ ?_
  rotate_left; · intro w'; go_simp; with_reducible rfl
  rotate_left; · simp only [Act.put, q1_, q2_, q3_, i64_w, i32_w]; rfl
  refine pure_ (i := 6) (N := some 26) (v := ?_) (a' := ?_) #[i1,i1,i1,i1,i1,i0,i1,i0,i0,i0,i0,i0,i0,i0] rfl rfl (any_of HT_.out (by kernel_rfl)) (fun _ _ _ h => h) (Or.inl ⟨by rfl, ?_⟩) ?_ ?_
  rotate_left; · intro w'; go_simp; with_reducible rfl
  rotate_left; · simp only [Act.put, q1_, q2_, q3_, i64_w, i32_w]; rfl
  refine pure_ (i := 7) (N := some 27) (v := ?_) (a' := ?_) #[i1,i1,i1,i1,i1,i0,i1,i1,i0,i0,i0,i0,i0,i0] rfl rfl (any_of HT_.out (by kernel_rfl)) (fun _ _ _ h => h) (Or.inl ⟨by rfl, ?_⟩) ?_ ?_
  rotate_left; · intro w'; go_simp; with_reducible rfl
  rotate_left; · simp only [Act.put, q1_, q2_, q3_, i64_w, i32_w]; rfl
  refine take_ (i := 8) (N := some 28) (v := ?_) (a' := ?_) #[i1,i1,i1,i1,i1,i0,i1,i1,i1,i0,i0,i0,i0,i0] rfl rfl (take_ofW HT_.out HW_.out (by kernel_rfl)) (fun _ _ _ h => h) (Or.inl ⟨by rfl, ?_⟩) hHeld ?_ ?_
  rotate_left; · rintro w' ⟨s0, s1, s2, s3⟩; go_simp; with_reducible rfl
  rotate_left; · simp only [Act.put, q1_, q2_, q3_, i64_w, i32_w]; rfl
  refine pure_ (i := 9) (N := some 29) (v := ?_) (a' := ?_) #[i1,i1,i1,i1,i1,i0,i1,i1,i1,i1,i0,i0,i0,i0] rfl rfl (any_of HT_.out (by kernel_rfl)) (fun _ _ _ h => h) (Or.inl ⟨by rfl, ?_⟩) ?_ ?_
  rotate_left; · intro w'; go_simp; with_reducible rfl
  rotate_left; · simp only [Act.put, q1_, q2_, q3_, i64_w, i32_w]; rfl
  refine pure_ (i := 10) (N := some 30) (v := ?_) (a' := ?_) #[i1,i1,i1,i1,i1,i0,i1,i1,i1,i1,i1,i0,i0,i0] rfl rfl (any_of HT_.out (by kernel_rfl)) (fun _ _ _ h => h) (Or.inl ⟨by rfl, ?_⟩) ?_ ?_
  rotate_left; · intro w'; go_simp; with_reducible rfl
  rotate_left; · simp only [Act.put, q1_, q2_, q3_, i64_w, i32_w]; rfl
  refine one_ (i := 5) (N := some 25) #[i1,i1,i1,i1,i1,i1,i1,i1,i1,i1,i1,i0,i0,i0] rfl rfl (one_of HT_.out (by kernel_rfl)) (by decide) (fun K hK => ?_)
  refine goes_ Try.func8 (by kernel_rfl) rfl #[.slice Ao18 y155.length co18] (by rfl) rfl rfl (by (try simp only [List.map_toArray, List.map_cons, List.map_nil]); first | done | rfl | (simp only [List.length_drop, List.length_take]; rfl)) ?_
  with_reducible refine (wire_Bytes.calls _ _ y155 t159 _ ?side1 ?side2 A10.out).mono ?_
  (case side1 => repeat (first | exact (by repeat (first | (with_reducible exact HR158.out) | (with_reducible refine Kd.C_alloc ?_ _) | (with_reducible refine Kd.C_drewN ?_ _) | (with_reducible refine Kd.C_drew ?_) | exact HR158.out)) | (with_reducible refine Kd.C_alloc ?_ _) | (with_reducible refine Kd.C_drewN ?_ _) | (with_reducible refine Kd.C_drew ?_)))
  (case side2 => exact HC158.out)
  rintro e w19 ⟨v160, rfl, ho0, hb⟩
  refine ⟨_, rfl, ?_⟩
  have n0_ := Aside0.mk (Kd.R_elder' HO154.out (Kd.R_base ho0) hb)
  have n1_ := Aside0.mk (Kd.R_lower (Kd.R_new' ho0 (Kd.R_lt HO154.out)) (below_size (by repeat (first | (with_reducible first | exact HB.out | apply below_alloc | apply pw_below_drewN | apply below_drew1) | exact HB.out))))
  have n2_ := Aside0.mk (Kd.C_below (by repeat (first | (with_reducible exact HR158.out) | (with_reducible refine Kd.C_alloc ?_ _) | (with_reducible refine Kd.C_drewN ?_ _) | (with_reducible refine Kd.C_drew ?_) | exact HR158.out)) hb)
  have n3_ := Aside0.mk (below_step (by repeat (first | (with_reducible first | exact HB.out | apply below_alloc | apply pw_below_drewN | apply below_drew1) | exact HB.out)) hb)
  clear HO154
  clear HR158
  clear HB
  have HO154 := n0_
  have HO161 := n1_
  have HR158 := n2_
  have HB := n3_
  clear n0_ n1_ n2_ n3_
  (try clear hb)
  (try clear hb2)
  (try clear hk)
  (try clear hi)
  (try clear ho0)
  refine hK.out _ _ (gW.kept4 HB.out HX.out) (fun hHeld => ?_)
  clear hK K
  refine norm_ (a' := ?_) ?_ ?_
  rotate_left
  · show Act.put _ (some 25) _ = _
    simp only [Act.put, q1_, q2_, q3_, i64_w, i32_w]
    rfl
  refine one_ (i := 11) (N := some 31) #[i1,i1,i1,i1,i1,i1,i1,i1,i1,i1,i1,i1,i0,i0] rfl rfl (one_of HT_.out (by kernel_rfl)) (by decide) (fun K hK => ?_)
  refine goes_ Try.func8 (by kernel_rfl) rfl #[.slice Ao18 y155.length co18] (by rfl) rfl rfl (by (try simp only [List.map_toArray, List.map_cons, List.map_nil]); first | done | rfl | (simp only [List.length_drop, List.length_take]; rfl)) ?_
  with_reducible refine (wire_Bytes.calls _ _ y155 t162 _ ?side1 ?side2 A11.out).mono ?_
  (case side1 => repeat (first | exact (by repeat (first | (with_reducible exact HR158.out) | (with_reducible refine Kd.C_alloc ?_ _) | (with_reducible refine Kd.C_drewN ?_ _) | (with_reducible refine Kd.C_drew ?_) | exact HR158.out)) | (with_reducible refine Kd.C_alloc ?_ _) | (with_reducible refine Kd.C_drewN ?_ _) | (with_reducible refine Kd.C_drew ?_)))
  (case side2 => exact HC158.out)
  rintro e w20 ⟨v163, rfl, ho0, hb⟩
  refine ⟨_, rfl, ?_⟩
  have n0_ := Aside0.mk (Kd.R_elder' HO154.out (Kd.R_base ho0) hb)
  have n1_ := Aside0.mk (Kd.R_elder' HO161.out (Kd.R_base ho0) hb)
  have n2_ := Aside0.mk (Kd.R_lower (Kd.R_new' (Kd.R_new' ho0 (Kd.R_lt HO154.out)) (Kd.R_lt HO161.out)) (below_size (by repeat (first | (with_reducible first | exact HB.out | apply below_alloc | apply pw_below_drewN | apply below_drew1) | exact HB.out))))
  have n3_ := Aside0.mk (Kd.C_below (by repeat (first | (with_reducible exact HR158.out) | (with_reducible refine Kd.C_alloc ?_ _) | (with_reducible refine Kd.C_drewN ?_ _) | (with_reducible refine Kd.C_drew ?_) | exact HR158.out)) hb)
  have n4_ := Aside0.mk (below_step (by repeat (first | (with_reducible first | exact HB.out | apply below_alloc | apply pw_below_drewN | apply below_drew1) | exact HB.out)) hb)
  clear HO154
  clear HO161
  clear HR158
  clear HB
  have HO154 := n0_
  have HO161 := n1_
  have HO164 := n2_
  have HR158 := n3_
  have HB := n4_
  clear n0_ n1_ n2_ n3_ n4_
  (try clear hb)
  (try clear hb2)
  (try clear hk)
  (try clear hi)
  (try clear ho0)
  refine hK.out _ _ (gW.kept4 HB.out HX.out) (fun hHeld => ?_)
  clear hK K
  refine norm_ (a' := ?_) ?_ ?_
  rotate_left
  · show Act.put _ (some 31) _ = _
    simp only [Act.put, q1_, q2_, q3_, i64_w, i32_w]
    rfl
  refine pure_ (i := 12) (N := some 6) (v := ?_) (a' := ?_) #[i1,i1,i1,i1,i1,i1,i1,i1,i1,i1,i1,i1,i1,i0] rfl rfl (any_of HT_.out (by kernel_rfl)) (fun _ _ _ h => h) (Or.inl ⟨by rfl, ?_⟩) ?_ ?_
  rotate_left; · intro w'; go_simp; with_reducible rfl
  rotate_left; · simp only [Act.put, q1_, q2_, q3_, i64_w, i32_w]; rfl
  refine pure_ (i := 13) (N := some 7) (v := ?_) (a' := ?_) #[i1,i1,i1,i1,i1,i1,i1,i1,i1,i1,i1,i1,i1,i1] rfl rfl (any_of HT_.out (by kernel_rfl)) (fun _ _ _ h => h) (Or.inl ⟨by rfl, ?_⟩) ?_ ?_
  rotate_left; · intro w'; go_simp; with_reducible rfl
  rotate_left; · simp only [Act.put, q1_, q2_, q3_, i64_w, i32_w]; rfl
  refine done_ (done_of HT_.out (by kernel_rfl)) ?_
  try go_wp2
  have n0_ := Aside0.mk (Kd.R_drew HO154.out)
  have n1_ := Aside0.mk (Kd.R_drew HO161.out)
  have n2_ := Aside0.mk (Kd.R_drew HO164.out)
  have n3_ := Aside0.mk (Kd.C_drew HR158.out)
  have n4_ := Aside0.mk (below_drew1 HB.out)
  clear HO154
  clear HO161
  clear HO164
  clear HR158
  clear HB
  have HO154 := n0_
  have HO161 := n1_
  have HO164 := n2_
  have HR158 := n3_
  have HB := n4_
  clear n0_ n1_ n2_ n3_ n4_
  refine start_ (n := 8) (S := fun w' => w'.cell? ⟨wz.heap.size, 0, none⟩ = some (.int .u64 a0) ∧ w'.cell? ⟨wz.heap.size, 1, none⟩ = some (.int .i64 a1) ∧ w'.cell? ⟨wz.heap.size, 2, none⟩ = some (.bool a2) ∧ w'.cell? ⟨wz.heap.size, 3, none⟩ = some (.slice A3 l3.length c3)) (ds := []) #[i0,i0,i0,i0,i0,i0,i0,i0] (by kernel_rfl) rfl rfl (gW.kept4 HB.out HX.out) (fun hHeld => ?_); refine with_tabW gW.tab3 gW.bits3 (fun HT_ HW_ => ?_)
  generalize w20.drew = w21 at HO154 HO161 HO164 HR158 HB hHeld ⊢
  refine pure_ (i := 0) (N := some 32) (v := ?_) (a' := ?_) #[i1,i0,i0,i0,i0,i0,i0,i0] rfl rfl (any_of HT_.out (by kernel_rfl)) (fun _ _ _ h => h) (Or.inl ⟨by rfl, ?_⟩) ?_ ?_
  rotate_left; · intro w'; go_simp; with_reducible rfl
  rotate_left; · simp only [Act.put, q1_, q2_, q3_, i64_w, i32_w]; rfl
  refine take_ (i := 1) (N := some 33) (v := ?_) (a' := ?_) #[i1,i1,i0,i0,i0,i0,i0,i0] rfl rfl (take_ofW HT_.out HW_.out (by kernel_rfl)) (fun _ _ _ h => h) (Or.inl ⟨by rfl, ?_⟩) hHeld ?_ ?_
  rotate_left; · rintro w' ⟨s0, s1, s2, s3⟩; go_simp; with_reducible rfl
  rotate_left; · simp only [Act.put, q1_, q2_, q3_, i64_w, i32_w]; rfl
  refine pure_ (i := 3) (N := some 35) (v := ?_) (a' := ?_) #[i1,i1,i0,i1,i0,i0,i0,i0] rfl rfl (any_of HT_.out (by kernel_rfl)) (fun _ _ _ h => h) (Or.inl ⟨by rfl, ?_⟩) ?_ ?_
  rotate_left; · intro w'; go_simp; with_reducible rfl
  rotate_left; · simp only [Act.put, q1_, q2_, q3_, i64_w, i32_w]; rfl
  refine take_ (i := 4) (N := some 36) (v := ?_) (a' := ?_) #[i1,i1,i0,i1,i1,i0,i0,i0] rfl rfl (take_ofW HT_.out HW_.out (by kernel_rfl)) (fun _ _ _ h => h) (Or.inl ⟨by rfl, ?_⟩) hHeld ?_ ?_
  rotate_left; · rintro w' ⟨s0, s1, s2, s3⟩; go_simp; with_reducible rfl
  rotate_left; · simp only [Act.put, q1_, q2_, q3_, i64_w, i32_w]; rfl
  refine one_ (i := 2) (N := some 34) #[i1,i1,i1,i1,i1,i0,i0,i0] rfl rfl (one_of HT_.out (by kernel_rfl)) (by decide) (fun K hK => ?_)
  refine goes_ Try.func9 (by kernel_rfl) rfl #[.int .u64 a0] (by rfl) rfl rfl (by (try simp only [List.map_toArray, List.map_cons, List.map_nil]); first | done | rfl | (simp only [List.length_drop, List.length_take]; rfl)) ?_
  with_reducible refine (wire_Number.calls a0 t165 _ A12.out).mono ?_
  rintro e w22 ⟨v166, rfl, ho0, hb⟩
  refine ⟨_, rfl, ?_⟩
  have n0_ := Aside0.mk (Kd.R_elder' HO154.out (Kd.R_base ho0) hb)
  have n1_ := Aside0.mk (Kd.R_elder' HO161.out (Kd.R_base ho0) hb)
  have n2_ := Aside0.mk (Kd.R_elder' HO164.out (Kd.R_base ho0) hb)
  have n3_ := Aside0.mk (Kd.R_lower (Kd.R_new' (Kd.R_new' (Kd.R_new' ho0 (Kd.R_lt HO154.out)) (Kd.R_lt HO161.out)) (Kd.R_lt HO164.out)) (below_size (by repeat (first | (with_reducible first | exact HB.out | apply below_alloc | apply pw_below_drewN | apply below_drew1) | exact HB.out))))
  have n4_ := Aside0.mk (Kd.C_below (by repeat (first | (with_reducible exact HR158.out) | (with_reducible refine Kd.C_alloc ?_ _) | (with_reducible refine Kd.C_drewN ?_ _) | (with_reducible refine Kd.C_drew ?_) | exact HR158.out)) hb)
  have n5_ := Aside0.mk (below_step (by repeat (first | (with_reducible first | exact HB.out | apply below_alloc | apply pw_below_drewN | apply below_drew1) | exact HB.out)) hb)
  clear HO154
  clear HO161
  clear HO164
  clear HR158
  clear HB
  have HO154 := n0_
  have HO161 := n1_
  have HO164 := n2_
  have HO167 := n3_
  have HR158 := n4_
  have HB := n5_
  clear n0_ n1_ n2_ n3_ n4_ n5_
  (try clear hb)
  (try clear hb2)
  (try clear hk)
  (try clear hi)
  (try clear ho0)
  refine hK.out _ _ (gW.kept4 HB.out HX.out) (fun hHeld => ?_)
  clear hK K
  refine norm_ (a' := ?_) ?_ ?_
  rotate_left
  · show Act.put _ (some 34) _ = _
    simp only [Act.put, q1_, q2_, q3_, i64_w, i32_w]
    rfl
  refine one_ (i := 5) (N := some 37) #[i1,i1,i1,i1,i1,i1,i0,i0] rfl rfl (one_of HT_.out (by kernel_rfl)) (by decide) (fun K hK => ?_)
  refine goes_ Try.func9 (by kernel_rfl) rfl #[.int .u64 a0] (by rfl) rfl rfl (by (try simp only [List.map_toArray, List.map_cons, List.map_nil]); first | done | rfl | (simp only [List.length_drop, List.length_take]; rfl)) ?_
  with_reducible refine (wire_Number.calls a0 t168 _ A13.out).mono ?_
  rintro e w23 ⟨v169, rfl, ho0, hb⟩
  refine ⟨_, rfl, ?_⟩
  have n0_ := Aside0.mk (Kd.R_elder' HO154.out (Kd.R_base ho0) hb)
  have n1_ := Aside0.mk (Kd.R_elder' HO161.out (Kd.R_base ho0) hb)
  have n2_ := Aside0.mk (Kd.R_elder' HO164.out (Kd.R_base ho0) hb)
  have n3_ := Aside0.mk (Kd.R_elder' HO167.out (Kd.R_base ho0) hb)
  have n4_ := Aside0.mk (Kd.R_lower (Kd.R_new' (Kd.R_new' (Kd.R_new' (Kd.R_new' ho0 (Kd.R_lt HO154.out)) (Kd.R_lt HO161.out)) (Kd.R_lt HO164.out)) (Kd.R_lt HO167.out)) (below_size (by repeat (first | (with_reducible first | exact HB.out | apply below_alloc | apply pw_below_drewN | apply below_drew1) | exact HB.out))))
  have n5_ := Aside0.mk (Kd.C_below (by repeat (first | (with_reducible exact HR158.out) | (with_reducible refine Kd.C_alloc ?_ _) | (with_reducible refine Kd.C_drewN ?_ _) | (with_reducible refine Kd.C_drew ?_) | exact HR158.out)) hb)
  have n6_ := Aside0.mk (below_step (by repeat (first | (with_reducible first | exact HB.out | apply below_alloc | apply pw_below_drewN | apply below_drew1) | exact HB.out)) hb)
  clear HO154
  clear HO161
  clear HO164
  clear HO167
  clear HR158
  clear HB
  have HO154 := n0_
  have HO161 := n1_
  have HO164 := n2_
  have HO167 := n3_
  have HO170 := n4_
  have HR158 := n5_
  have HB := n6_
  clear n0_ n1_ n2_ n3_ n4_ n5_ n6_
  (try clear hb)
  (try clear hb2)
  (try clear hk)
  (try clear hi)
  (try clear ho0)
  refine hK.out _ _ (gW.kept4 HB.out HX.out) (fun hHeld => ?_)
  clear hK K
  refine norm_ (a' := ?_) ?_ ?_
  rotate_left
  · show Act.put _ (some 37) _ = _
    simp only [Act.put, q1_, q2_, q3_, i64_w, i32_w]
    rfl
  refine pure_ (i := 6) (N := some 8) (v := ?_) (a' := ?_) #[i1,i1,i1,i1,i1,i1,i1,i0] rfl rfl (any_of HT_.out (by kernel_rfl)) (fun _ _ _ h => h) (Or.inl ⟨by rfl, ?_⟩) ?_ ?_
  rotate_left; · intro w'; go_simp; with_reducible rfl
  rotate_left; · simp only [Act.put, q1_, q2_, q3_, i64_w, i32_w]; rfl
  refine pure_ (i := 7) (N := some 9) (v := ?_) (a' := ?_) #[i1,i1,i1,i1,i1,i1,i1,i1] rfl rfl (any_of HT_.out (by kernel_rfl)) (fun _ _ _ h => h) (Or.inl ⟨by rfl, ?_⟩) ?_ ?_
  rotate_left; · intro w'; go_simp; with_reducible rfl
  rotate_left; · simp only [Act.put, q1_, q2_, q3_, i64_w, i32_w]; rfl
  refine done_ (done_of HT_.out (by kernel_rfl)) ?_
  try go_wp2
  go_loopg [10, 11] k (fun kq v10 v11 w' => ∃ (x10_1 : List Int) (x11_1 : Int), v11 = .int .i64 x11_1 ∧ Aside0 (gW.l0 kq a0 a1 a2 l3 l4 y152 t159 t162 t165 t168 x10_1 x11_1 = some r) ∧ Aside0 (kq ≤ k) ∧ Aside0 (Kd.R (Kd.int .u8) 5 w' w.heap.size (fun k_ => some k_ ≠ (v160 : Value).ownBlock ∧ some k_ ≠ (v163 : Value).ownBlock ∧ some k_ ≠ (v166 : Value).ownBlock ∧ some k_ ≠ (v169 : Value).ownBlock ∧ some k_ ≠ (v10 : Value).ownBlock) (.slice Ao18 y152.length co18) y152) ∧ Aside0 (Kd.R (Kd.int .u8) 5 w' w.heap.size (fun k_ => some k_ ≠ ((.slice Ao18 y152.length co18) : Value).ownBlock ∧ some k_ ≠ (v163 : Value).ownBlock ∧ some k_ ≠ (v166 : Value).ownBlock ∧ some k_ ≠ (v169 : Value).ownBlock ∧ some k_ ≠ (v10 : Value).ownBlock) v160 t159) ∧ Aside0 (Kd.R (Kd.int .u8) 5 w' w.heap.size (fun k_ => some k_ ≠ ((.slice Ao18 y152.length co18) : Value).ownBlock ∧ some k_ ≠ (v160 : Value).ownBlock ∧ some k_ ≠ (v166 : Value).ownBlock ∧ some k_ ≠ (v169 : Value).ownBlock ∧ some k_ ≠ (v10 : Value).ownBlock) v163 t162) ∧ Aside0 (Kd.R (Kd.int .u8) 5 w' w.heap.size (fun k_ => some k_ ≠ ((.slice Ao18 y152.length co18) : Value).ownBlock ∧ some k_ ≠ (v160 : Value).ownBlock ∧ some k_ ≠ (v163 : Value).ownBlock ∧ some k_ ≠ (v169 : Value).ownBlock ∧ some k_ ≠ (v10 : Value).ownBlock) v166 t165) ∧ Aside0 (Kd.R (Kd.int .u8) 5 w' w.heap.size (fun k_ => some k_ ≠ ((.slice Ao18 y152.length co18) : Value).ownBlock ∧ some k_ ≠ (v160 : Value).ownBlock ∧ some k_ ≠ (v163 : Value).ownBlock ∧ some k_ ≠ (v166 : Value).ownBlock ∧ some k_ ≠ (v10 : Value).ownBlock) v169 t168) ∧ Aside0 (Kd.R (Kd.int .u8) 5 w' w.heap.size (fun k_ => some k_ ≠ ((.slice Ao18 y152.length co18) : Value).ownBlock ∧ some k_ ≠ (v160 : Value).ownBlock ∧ some k_ ≠ (v163 : Value).ownBlock ∧ some k_ ≠ (v166 : Value).ownBlock ∧ some k_ ≠ (v169 : Value).ownBlock) v10 x10_1) ∧ Aside0 (Below w.heap.size w w'))
  case atStart => exact ⟨(([] : List Int)), (0), (by first | rfl | (simp; done) | (simp [*]; done)), H', ⟨Nat.le_refl _⟩, ⟨by (with_reducible repeat (first | apply Kd.R_alloc | apply Kd.R_drewN | apply Kd.R_drew)); exact Kd.R_mono HO154.out (fun _ hk => ⟨hk.1.1.1.2, ⟨hk.1.1.2, ⟨hk.1.2, ⟨hk.2, (by simp [Value.ownBlock])⟩⟩⟩⟩)⟩, ⟨by (with_reducible repeat (first | apply Kd.R_alloc | apply Kd.R_drewN | apply Kd.R_drew)); exact Kd.R_mono HO161.out (fun _ hk => ⟨hk.1.1.1.2, ⟨hk.1.1.2, ⟨hk.1.2, ⟨hk.2, (by simp [Value.ownBlock])⟩⟩⟩⟩)⟩, ⟨by (with_reducible repeat (first | apply Kd.R_alloc | apply Kd.R_drewN | apply Kd.R_drew)); exact Kd.R_mono HO164.out (fun _ hk => ⟨hk.1.1.1.2, ⟨hk.1.1.2, ⟨hk.1.2, ⟨hk.2, (by simp [Value.ownBlock])⟩⟩⟩⟩)⟩, ⟨by (with_reducible repeat (first | apply Kd.R_alloc | apply Kd.R_drewN | apply Kd.R_drew)); exact Kd.R_mono HO167.out (fun _ hk => ⟨hk.1.1.1.2, ⟨hk.1.1.2, ⟨hk.1.2, ⟨hk.2, (by simp [Value.ownBlock])⟩⟩⟩⟩)⟩, ⟨by (with_reducible repeat (first | apply Kd.R_alloc | apply Kd.R_drewN | apply Kd.R_drew)); exact Kd.R_mono HO170.out (fun _ hk => ⟨hk.1.1.1.2, ⟨hk.1.1.2, ⟨hk.1.2, ⟨hk.2, (by simp [Value.ownBlock])⟩⟩⟩⟩)⟩, ⟨by first | exact Kd.R_nil _ _ _ _ _ | exact Kd.N_nil _ _ _ _ _ | exact Kd.V_nil _ _ _ _ _ | exact Kd.Q_nil _ _ _ _ _ | exact Kd.S_nil _ _ _ _ _⟩, ⟨by repeat (first | (with_reducible first | exact HB.out | apply below_alloc | apply pw_below_drewN | apply below_drew1) | exact HB.out)⟩⟩
  case round => as_aux_lemma =>
    clear H'
    try clear q1
    try clear p2
    try clear c3
    try clear c4
    try clear c6
    try clear c7
    try clear c8
    try clear c8b0
    try clear c8b1
    try clear c9
    try clear c9b0
    try clear c9b1
    try clear q17
    try clear q17
    obtain ⟨x10_1, x11_1, rfl, HA, HK1, HO_5, HO_6, HO_7, HO_8, HO_9, HO_10, HB⟩ := hrel
    cases gk with
    | zero => exact absurd HA.out (by simp [gW.l0])
    | succ k1 =>
      have H := HA.out
      clear HA
      simp only [gW.l0] at H
      by_cases c24 : x11_1 < (l4.length : Int)
      · rw [if_pos c24] at H
        have c24b0 : decide (x11_1 < (l4.length : Int)) = true := decide_eq_true c24
        clear c24
        have c25 : 0 ≤ x11_1 := Classical.byContradiction fun h_ => by rw [if_neg h_] at H; exact absurd H (by simp)
        rw [if_pos c25] at H
        have c25b0 : decide (0 ≤ x11_1) = true := decide_eq_true c25
        clear c25
        have c26 : x10_1.length + (rd_L1 l4 x11_1).length < 140737488355328 := Classical.byContradiction fun h_ => by rw [if_neg h_] at H; exact absurd H (by simp)
        rw [if_pos c26] at H
        have LMc26 := Aside0.mk c26
        clear c26
        obtain ⟨y172, hy172⟩ : ∃ y_ : List Int, y_ = (x10_1 ++ (rd_L1 l4 x11_1)) := ⟨_, rfl⟩
        replace H : (gW.l0 k1 a0 a1 a2 l3 l4 y152 t159 t162 t165 t168 y172 (wrap64 (x11_1 + 1))) = some r := by first | (rw [hy172]; with_reducible exact H) | (have H2_ := (Option.bind_some _ _).symm.trans H; rw [hy172]; with_reducible exact H2_) | (have H2_ := (Option.bind_some _ _).symm.trans H; with_reducible exact H2_) | with_reducible exact H | (rw [hy172]; exact H) | exact H
        have Ny172 := Aside0.mk hy172
        clear hy172
        have H' := Aside0.mk H
        clear H
        have p171 : 0 ≤ (x11_1 : Int) := of_decide_eq_true (by first | (with_reducible assumption) | assumption)
        have q171 : x11_1 < (l4.length : Int) := of_decide_eq_true (by first | (with_reducible assumption) | assumption)
        obtain ⟨ad171, A171_0, c171_0, e171, hx171_0, hl171_0, hi171_0⟩ := at_L1 HR4.out x11_1 p171 q171
        cases e171
        replace hx171_0 := (HB.out.cell (World.block_lt_of_cell? w _ hx171_0)).trans hx171_0
        have HR171_0 := Aside0.mk hi171_0
        have HC171_0 := Aside0.mk hl171_0
        clear hi171_0 hl171_0
        replace p171 := eq_true p171
        replace q171 := eq_true q171
        (try (have q171d := q171; simp only [List.length_drop, List.length_take] at q171d))
        go_wp2_with (first | ((with_reducible refine gate_builtin (b := .append) (xs := #[.tmp 44, .tmp 48]) rfl ?_); at_builtin; refine Kd.R_append_rows (Kd.int .u8) (w0 := w) w.heap.size rfl (.tmp 44) (.tmp 48) 23 5 (.int .u8 0) 1 rfl Try.underlying23 info5 rfl (by decide) (by omega) u10 x10_1 (rd_L1 l4 x11_1) _ _ _ (fun k_ => some k_ ≠ (.slice Ao18 y152.length co18 : Value).ownBlock ∧ some k_ ≠ (v160 : Value).ownBlock ∧ some k_ ≠ (v163 : Value).ownBlock ∧ some k_ ≠ (v166 : Value).ownBlock ∧ some k_ ≠ (v169 : Value).ownBlock) (fun _ => False) rfl rfl ?aO ?aR (fun _ _ h => h) (fun _ h => h.elim) ?aF ?aB ?aS ?aL ?_; (case aR => repeat (first | exact (Kd.C_below HR171_0.out HB.out) | (with_reducible refine Kd.C_alloc ?_ _) | (with_reducible refine Kd.C_drewN ?_ _) | (with_reducible refine Kd.C_drew ?_))); (case aB => exact (by repeat (first | (with_reducible first | exact HB.out | apply below_alloc | apply pw_below_drewN | apply below_drew1) | exact HB.out))); (case aF => exact (fun k_ hk => ⟨Kd.fresh' (Kd.R_lt (by (with_reducible repeat (first | apply Kd.R_alloc | apply Kd.R_drewN | apply Kd.R_drew)); exact HO_5.out)) k_ hk, Kd.fresh' (Kd.R_lt (by (with_reducible repeat (first | apply Kd.R_alloc | apply Kd.R_drewN | apply Kd.R_drew)); exact HO_6.out)) k_ hk, Kd.fresh' (Kd.R_lt (by (with_reducible repeat (first | apply Kd.R_alloc | apply Kd.R_drewN | apply Kd.R_drew)); exact HO_7.out)) k_ hk, Kd.fresh' (Kd.R_lt (by (with_reducible repeat (first | apply Kd.R_alloc | apply Kd.R_drewN | apply Kd.R_drew)); exact HO_8.out)) k_ hk, Kd.fresh' (Kd.R_lt (by (with_reducible repeat (first | apply Kd.R_alloc | apply Kd.R_drewN | apply Kd.R_drew)); exact HO_9.out)) k_ hk⟩)); (case aO => exact (by (with_reducible repeat (first | apply Kd.R_alloc | apply Kd.R_drewN | apply Kd.R_drew)); exact HO_10.out)); (case aS => exact (below_size (by repeat (first | (with_reducible first | exact HB.out | apply below_alloc | apply pw_below_drewN | apply below_drew1) | exact HB.out)))); (case aL => have := LMc26.out; omega); intro v173 w27 ho hb hg hat; rw [← Ny172.out] at ho; have n0_ := Aside0.mk (Kd.R_after (ok := (fun k_ => some k_ ≠ (v160 : Value).ownBlock ∧ some k_ ≠ (v163 : Value).ownBlock ∧ some k_ ≠ (v166 : Value).ownBlock ∧ some k_ ≠ (v169 : Value).ownBlock)) (by (with_reducible repeat (first | apply Kd.R_alloc | apply Kd.R_drewN | apply Kd.R_drew)); exact Kd.R_mono HO_5.out (fun _ hk => ⟨⟨hk.1, ⟨hk.2.1, ⟨hk.2.2.1, hk.2.2.2.1⟩⟩⟩, hk.2.2.2.2⟩)) hg hat); have n1_ := Aside0.mk (Kd.R_after (ok := (fun k_ => some k_ ≠ (.slice Ao18 y152.length co18 : Value).ownBlock ∧ some k_ ≠ (v163 : Value).ownBlock ∧ some k_ ≠ (v166 : Value).ownBlock ∧ some k_ ≠ (v169 : Value).ownBlock)) (by (with_reducible repeat (first | apply Kd.R_alloc | apply Kd.R_drewN | apply Kd.R_drew)); exact Kd.R_mono HO_6.out (fun _ hk => ⟨⟨hk.1, ⟨hk.2.1, ⟨hk.2.2.1, hk.2.2.2.1⟩⟩⟩, hk.2.2.2.2⟩)) hg hat); have n2_ := Aside0.mk (Kd.R_after (ok := (fun k_ => some k_ ≠ (.slice Ao18 y152.length co18 : Value).ownBlock ∧ some k_ ≠ (v160 : Value).ownBlock ∧ some k_ ≠ (v166 : Value).ownBlock ∧ some k_ ≠ (v169 : Value).ownBlock)) (by (with_reducible repeat (first | apply Kd.R_alloc | apply Kd.R_drewN | apply Kd.R_drew)); exact Kd.R_mono HO_7.out (fun _ hk => ⟨⟨hk.1, ⟨hk.2.1, ⟨hk.2.2.1, hk.2.2.2.1⟩⟩⟩, hk.2.2.2.2⟩)) hg hat); have n3_ := Aside0.mk (Kd.R_after (ok := (fun k_ => some k_ ≠ (.slice Ao18 y152.length co18 : Value).ownBlock ∧ some k_ ≠ (v160 : Value).ownBlock ∧ some k_ ≠ (v163 : Value).ownBlock ∧ some k_ ≠ (v169 : Value).ownBlock)) (by (with_reducible repeat (first | apply Kd.R_alloc | apply Kd.R_drewN | apply Kd.R_drew)); exact Kd.R_mono HO_8.out (fun _ hk => ⟨⟨hk.1, ⟨hk.2.1, ⟨hk.2.2.1, hk.2.2.2.1⟩⟩⟩, hk.2.2.2.2⟩)) hg hat); have n4_ := Aside0.mk (Kd.R_after (ok := (fun k_ => some k_ ≠ (.slice Ao18 y152.length co18 : Value).ownBlock ∧ some k_ ≠ (v160 : Value).ownBlock ∧ some k_ ≠ (v163 : Value).ownBlock ∧ some k_ ≠ (v166 : Value).ownBlock)) (by (with_reducible repeat (first | apply Kd.R_alloc | apply Kd.R_drewN | apply Kd.R_drew)); exact Kd.R_mono HO_9.out (fun _ hk => ⟨⟨hk.1, ⟨hk.2.1, ⟨hk.2.2.1, hk.2.2.2.1⟩⟩⟩, hk.2.2.2.2⟩)) hg hat); have n5_ := Aside0.mk (hb); have n6_ := Aside0.mk (ho); clear HO_5; clear HO_6; clear HO_7; clear HO_8; clear HO_9; clear HB; clear HO_10; have HO_5 := n0_; have HO_6 := n1_; have HO_7 := n2_; have HO_8 := n3_; have HO_9 := n4_; have HB := n5_; have HO174 := n6_; clear n0_ n1_ n2_ n3_ n4_ n5_ n6_; clear ho hb hg hat))
        go_roundg k1
        case measure => have := HK1.out; omega
        case rel => exact ⟨(y172), (wrap64 (x11_1 + 1)), (by first | rfl | (simp; done) | (simp [*]; done)), H', ⟨by have := HK1.out; omega⟩, ⟨by (with_reducible repeat (first | apply Kd.R_alloc | apply Kd.R_drewN | apply Kd.R_drew)); exact Kd.R_mono HO_5.out (fun _ hk => ⟨hk.1.1, ⟨hk.1.2.1, ⟨hk.1.2.2.1, ⟨hk.1.2.2.2, hk.2⟩⟩⟩⟩)⟩, ⟨by (with_reducible repeat (first | apply Kd.R_alloc | apply Kd.R_drewN | apply Kd.R_drew)); exact Kd.R_mono HO_6.out (fun _ hk => ⟨hk.1.1, ⟨hk.1.2.1, ⟨hk.1.2.2.1, ⟨hk.1.2.2.2, hk.2⟩⟩⟩⟩)⟩, ⟨by (with_reducible repeat (first | apply Kd.R_alloc | apply Kd.R_drewN | apply Kd.R_drew)); exact Kd.R_mono HO_7.out (fun _ hk => ⟨hk.1.1, ⟨hk.1.2.1, ⟨hk.1.2.2.1, ⟨hk.1.2.2.2, hk.2⟩⟩⟩⟩)⟩, ⟨by (with_reducible repeat (first | apply Kd.R_alloc | apply Kd.R_drewN | apply Kd.R_drew)); exact Kd.R_mono HO_8.out (fun _ hk => ⟨hk.1.1, ⟨hk.1.2.1, ⟨hk.1.2.2.1, ⟨hk.1.2.2.2, hk.2⟩⟩⟩⟩)⟩, ⟨by (with_reducible repeat (first | apply Kd.R_alloc | apply Kd.R_drewN | apply Kd.R_drew)); exact Kd.R_mono HO_9.out (fun _ hk => ⟨hk.1.1, ⟨hk.1.2.1, ⟨hk.1.2.2.1, ⟨hk.1.2.2.2, hk.2⟩⟩⟩⟩)⟩, ⟨by (with_reducible repeat (first | apply Kd.R_alloc | apply Kd.R_drewN | apply Kd.R_drew)); exact HO174.out⟩, ⟨by repeat (first | (with_reducible first | exact HB.out | apply below_alloc | apply pw_below_drewN | apply below_drew1) | exact HB.out)⟩⟩
      rw [if_neg c24] at H
      have c24b0 : decide (x11_1 < (l4.length : Int)) = false := decide_eq_false c24
      clear c24
      replace H := Option.bind_eq_some_iff.mp H
      obtain ⟨t175, A280, H⟩ := H
      replace H : ((garnerref01_Bytes.f k1 l3).bind fun t178 => (if (strOfNums t159).toList = (strOfNums t178).toList then ((garnerref01_Number.f k1 a0).bind fun t181 => (if (strOfNums t165).toList = (strOfNums t181).toList then ((wire_Signed.f a1).bind fun t184 => ((garnerref01_Signed.f k1 a1).bind fun t187 => (if (strOfNums t184).toList = (strOfNums t187).toList then ((wire_Flag.f a2).bind fun t190 => ((garnerref01_Flag.f a2).bind fun t193 => (if (strOfNums t190).toList = (strOfNums t193).toList then (gW.j1 k1 a0 l3 l4 y152 t159 t162 t165 t168 x10_1 t175 ((strOfNums t175).toList != (strOfNums x10_1).toList)) else (none)))) else (none)))) else (none))) else (none))) = some r := H
      have A28 := Aside0.mk A280
      clear A280
      have HC29 := Aside0.mk H
      clear H
      go_upto_region 10 with (first | ((with_reducible refine gate_callee (f := 10) rfl ?_); refine goesL_ (some 51) rfl rfl Try.func10 (by kernel_rfl) rfl #[.slice A4 l4.length c4] rfl (by (try simp only [List.map_toArray, List.map_cons, List.map_nil]); first | done | rfl | (simp only [List.length_drop, List.length_take]; rfl)) ?_; (with_reducible refine (wire_Join.calls k1 _ _ l4 t175 _ ?side1 ?side2 A28.out).mono ?_); (case side1 => repeat (first | exact (Kd.C_below HR4.out HB.out) | (with_reducible refine Kd.C_alloc ?_ _) | (with_reducible refine Kd.C_drewN ?_ _) | (with_reducible refine Kd.C_drew ?_))); (case side2 => exact HC4.out); rintro e w30 ⟨v176, rfl, ho0, hb⟩; refine ⟨_, rfl, ?_⟩; have n0_ := Aside0.mk (Kd.R_elder' (by (with_reducible repeat (first | apply Kd.R_alloc | apply Kd.R_drewN | apply Kd.R_drew)); exact HO_5.out) (Kd.R_base ho0) hb); have n1_ := Aside0.mk (Kd.R_elder' (by (with_reducible repeat (first | apply Kd.R_alloc | apply Kd.R_drewN | apply Kd.R_drew)); exact HO_6.out) (Kd.R_base ho0) hb); have n2_ := Aside0.mk (Kd.R_elder' (by (with_reducible repeat (first | apply Kd.R_alloc | apply Kd.R_drewN | apply Kd.R_drew)); exact HO_7.out) (Kd.R_base ho0) hb); have n3_ := Aside0.mk (Kd.R_elder' (by (with_reducible repeat (first | apply Kd.R_alloc | apply Kd.R_drewN | apply Kd.R_drew)); exact HO_8.out) (Kd.R_base ho0) hb); have n4_ := Aside0.mk (Kd.R_elder' (by (with_reducible repeat (first | apply Kd.R_alloc | apply Kd.R_drewN | apply Kd.R_drew)); exact HO_9.out) (Kd.R_base ho0) hb); have n5_ := Aside0.mk (Kd.R_elder' (by (with_reducible repeat (first | apply Kd.R_alloc | apply Kd.R_drewN | apply Kd.R_drew)); exact HO_10.out) (Kd.R_base ho0) hb); have n6_ := Aside0.mk (Kd.R_lower (Kd.R_new' (Kd.R_new' (Kd.R_new' (Kd.R_new' (Kd.R_new' (Kd.R_new' ho0 (Kd.R_lt (by (with_reducible repeat (first | apply Kd.R_alloc | apply Kd.R_drewN | apply Kd.R_drew)); exact HO_5.out))) (Kd.R_lt (by (with_reducible repeat (first | apply Kd.R_alloc | apply Kd.R_drewN | apply Kd.R_drew)); exact HO_6.out))) (Kd.R_lt (by (with_reducible repeat (first | apply Kd.R_alloc | apply Kd.R_drewN | apply Kd.R_drew)); exact HO_7.out))) (Kd.R_lt (by (with_reducible repeat (first | apply Kd.R_alloc | apply Kd.R_drewN | apply Kd.R_drew)); exact HO_8.out))) (Kd.R_lt (by (with_reducible repeat (first | apply Kd.R_alloc | apply Kd.R_drewN | apply Kd.R_drew)); exact HO_9.out))) (Kd.R_lt (by (with_reducible repeat (first | apply Kd.R_alloc | apply Kd.R_drewN | apply Kd.R_drew)); exact HO_10.out))) (below_size (by repeat (first | (with_reducible first | exact HB.out | apply below_alloc | apply pw_below_drewN | apply below_drew1) | exact HB.out)))); have n7_ := Aside0.mk (below_step (by repeat (first | (with_reducible first | exact HB.out | apply below_alloc | apply pw_below_drewN | apply below_drew1) | exact HB.out)) hb); clear HO_5; clear HO_6; clear HO_7; clear HO_8; clear HO_9; clear HO_10; clear HB; have HO_5 := n0_; have HO_6 := n1_; have HO_7 := n2_; have HO_8 := n3_; have HO_9 := n4_; have HO_10 := n5_; have HO177 := n6_; have HB := n7_; clear n0_ n1_ n2_ n3_ n4_ n5_ n6_ n7_; (try clear hb); (try clear hb2); (try clear hk); (try clear hi); (try clear ho0)))
      (try simp only [Act.put, List.setIfInBounds_toArray, List.set_cons_zero, List.set_cons_succ])
      go_cut [96] (fun v96 wc => ∃ (kq : Nat) (x96_28 : Bool), v96 = .bool x96_28 ∧ Aside0 (gW.j1 kq a0 l3 l4 y152 t159 t162 t165 t168 x10_1 t175 x96_28 = some r) ∧ Aside0 (kq ≤ k1) ∧ Aside0 (Kd.R (Kd.int .u8) 5 wc w.heap.size (fun k_ => some k_ ≠ (v160 : Value).ownBlock ∧ some k_ ≠ (v163 : Value).ownBlock ∧ some k_ ≠ (v166 : Value).ownBlock ∧ some k_ ≠ (v169 : Value).ownBlock ∧ some k_ ≠ (u10 : Value).ownBlock ∧ some k_ ≠ (v176 : Value).ownBlock) (.slice Ao18 y152.length co18) y152) ∧ Aside0 (Kd.R (Kd.int .u8) 5 wc w.heap.size (fun k_ => some k_ ≠ ((.slice Ao18 y152.length co18) : Value).ownBlock ∧ some k_ ≠ (v163 : Value).ownBlock ∧ some k_ ≠ (v166 : Value).ownBlock ∧ some k_ ≠ (v169 : Value).ownBlock ∧ some k_ ≠ (u10 : Value).ownBlock ∧ some k_ ≠ (v176 : Value).ownBlock) v160 t159) ∧ Aside0 (Kd.R (Kd.int .u8) 5 wc w.heap.size (fun k_ => some k_ ≠ ((.slice Ao18 y152.length co18) : Value).ownBlock ∧ some k_ ≠ (v160 : Value).ownBlock ∧ some k_ ≠ (v166 : Value).ownBlock ∧ some k_ ≠ (v169 : Value).ownBlock ∧ some k_ ≠ (u10 : Value).ownBlock ∧ some k_ ≠ (v176 : Value).ownBlock) v163 t162) ∧ Aside0 (Kd.R (Kd.int .u8) 5 wc w.heap.size (fun k_ => some k_ ≠ ((.slice Ao18 y152.length co18) : Value).ownBlock ∧ some k_ ≠ (v160 : Value).ownBlock ∧ some k_ ≠ (v163 : Value).ownBlock ∧ some k_ ≠ (v169 : Value).ownBlock ∧ some k_ ≠ (u10 : Value).ownBlock ∧ some k_ ≠ (v176 : Value).ownBlock) v166 t165) ∧ Aside0 (Kd.R (Kd.int .u8) 5 wc w.heap.size (fun k_ => some k_ ≠ ((.slice Ao18 y152.length co18) : Value).ownBlock ∧ some k_ ≠ (v160 : Value).ownBlock ∧ some k_ ≠ (v163 : Value).ownBlock ∧ some k_ ≠ (v166 : Value).ownBlock ∧ some k_ ≠ (u10 : Value).ownBlock ∧ some k_ ≠ (v176 : Value).ownBlock) v169 t168) ∧ Aside0 (Kd.R (Kd.int .u8) 5 wc w.heap.size (fun k_ => some k_ ≠ ((.slice Ao18 y152.length co18) : Value).ownBlock ∧ some k_ ≠ (v160 : Value).ownBlock ∧ some k_ ≠ (v163 : Value).ownBlock ∧ some k_ ≠ (v166 : Value).ownBlock ∧ some k_ ≠ (v169 : Value).ownBlock ∧ some k_ ≠ (v176 : Value).ownBlock) u10 x10_1) ∧ Aside0 (Kd.R (Kd.int .u8) 5 wc w.heap.size (fun k_ => some k_ ≠ ((.slice Ao18 y152.length co18) : Value).ownBlock ∧ some k_ ≠ (v160 : Value).ownBlock ∧ some k_ ≠ (v163 : Value).ownBlock ∧ some k_ ≠ (v166 : Value).ownBlock ∧ some k_ ≠ (v169 : Value).ownBlock ∧ some k_ ≠ (u10 : Value).ownBlock) v176 t175) ∧ Aside0 (Below w.heap.size w wc))
      case first => as_aux_lemma =>
        have H := HC29.out
        clear HC29
        replace H := Option.bind_eq_some_iff.mp H
        obtain ⟨t178, A310, H⟩ := H
        replace H : (if (strOfNums t159).toList = (strOfNums t178).toList then ((garnerref01_Number.f k1 a0).bind fun t181 => (if (strOfNums t165).toList = (strOfNums t181).toList then ((wire_Signed.f a1).bind fun t184 => ((garnerref01_Signed.f k1 a1).bind fun t187 => (if (strOfNums t184).toList = (strOfNums t187).toList then ((wire_Flag.f a2).bind fun t190 => ((garnerref01_Flag.f a2).bind fun t193 => (if (strOfNums t190).toList = (strOfNums t193).toList then (gW.j1 k1 a0 l3 l4 y152 t159 t162 t165 t168 x10_1 t175 ((strOfNums t175).toList != (strOfNums x10_1).toList)) else (none)))) else (none)))) else (none))) else (none)) = some r := H
        have A31 := Aside0.mk A310
        clear A310
        have c32 : (strOfNums t159).toList = (strOfNums t178).toList := Classical.byContradiction fun h_ => by rw [if_neg h_] at H; exact absurd H (by simp)
        rw [if_pos c32] at H
        have c32b0 : ((strOfNums t159).toList == (strOfNums t178).toList) = true := beq_iff_eq.mpr c32
        have c32b1 : ((strOfNums t159).toList != (strOfNums t178).toList) = false := bne_eq_false_iff_eq.mpr c32
        clear c32
        (first | rw [c32b0] | (simp only [i64_w, i32_w]; rw [c32b0]) | skip)
        replace H := Option.bind_eq_some_iff.mp H
        obtain ⟨t181, A330, H⟩ := H
        replace H : (if (strOfNums t165).toList = (strOfNums t181).toList then ((wire_Signed.f a1).bind fun t184 => ((garnerref01_Signed.f k1 a1).bind fun t187 => (if (strOfNums t184).toList = (strOfNums t187).toList then ((wire_Flag.f a2).bind fun t190 => ((garnerref01_Flag.f a2).bind fun t193 => (if (strOfNums t190).toList = (strOfNums t193).toList then (gW.j1 k1 a0 l3 l4 y152 t159 t162 t165 t168 x10_1 t175 ((strOfNums t175).toList != (strOfNums x10_1).toList)) else (none)))) else (none)))) else (none)) = some r := H
        have A33 := Aside0.mk A330
        clear A330
        have c34 : (strOfNums t165).toList = (strOfNums t181).toList := Classical.byContradiction fun h_ => by rw [if_neg h_] at H; exact absurd H (by simp)
        rw [if_pos c34] at H
        have c34b0 : ((strOfNums t165).toList == (strOfNums t181).toList) = true := beq_iff_eq.mpr c34
        have c34b1 : ((strOfNums t165).toList != (strOfNums t181).toList) = false := bne_eq_false_iff_eq.mpr c34
        clear c34
        replace H := Option.bind_eq_some_iff.mp H
        obtain ⟨t184, A350, H⟩ := H
        replace H : ((garnerref01_Signed.f k1 a1).bind fun t187 => (if (strOfNums t184).toList = (strOfNums t187).toList then ((wire_Flag.f a2).bind fun t190 => ((garnerref01_Flag.f a2).bind fun t193 => (if (strOfNums t190).toList = (strOfNums t193).toList then (gW.j1 k1 a0 l3 l4 y152 t159 t162 t165 t168 x10_1 t175 ((strOfNums t175).toList != (strOfNums x10_1).toList)) else (none)))) else (none))) = some r := H
        have A35 := Aside0.mk A350
        clear A350
        replace H := Option.bind_eq_some_iff.mp H
        obtain ⟨t187, A360, H⟩ := H
        replace H : (if (strOfNums t184).toList = (strOfNums t187).toList then ((wire_Flag.f a2).bind fun t190 => ((garnerref01_Flag.f a2).bind fun t193 => (if (strOfNums t190).toList = (strOfNums t193).toList then (gW.j1 k1 a0 l3 l4 y152 t159 t162 t165 t168 x10_1 t175 ((strOfNums t175).toList != (strOfNums x10_1).toList)) else (none)))) else (none)) = some r := H
        have A36 := Aside0.mk A360
        clear A360
        have c37 : (strOfNums t184).toList = (strOfNums t187).toList := Classical.byContradiction fun h_ => by rw [if_neg h_] at H; exact absurd H (by simp)
        rw [if_pos c37] at H
        have c37b0 : ((strOfNums t184).toList == (strOfNums t187).toList) = true := beq_iff_eq.mpr c37
        have c37b1 : ((strOfNums t184).toList != (strOfNums t187).toList) = false := bne_eq_false_iff_eq.mpr c37
        clear c37
        replace H := Option.bind_eq_some_iff.mp H
        obtain ⟨t190, A380, H⟩ := H
        replace H : ((garnerref01_Flag.f a2).bind fun t193 => (if (strOfNums t190).toList = (strOfNums t193).toList then (gW.j1 k1 a0 l3 l4 y152 t159 t162 t165 t168 x10_1 t175 ((strOfNums t175).toList != (strOfNums x10_1).toList)) else (none))) = some r := H
        have A38 := Aside0.mk A380
        clear A380
        replace H := Option.bind_eq_some_iff.mp H
        obtain ⟨t193, A390, H⟩ := H
        replace H : (if (strOfNums t190).toList = (strOfNums t193).toList then (gW.j1 k1 a0 l3 l4 y152 t159 t162 t165 t168 x10_1 t175 ((strOfNums t175).toList != (strOfNums x10_1).toList)) else (none)) = some r := H
        have A39 := Aside0.mk A390
        clear A390
        have c40 : (strOfNums t190).toList = (strOfNums t193).toList := Classical.byContradiction fun h_ => by rw [if_neg h_] at H; exact absurd H (by simp)
        rw [if_pos c40] at H
        have c40b0 : ((strOfNums t190).toList == (strOfNums t193).toList) = true := beq_iff_eq.mpr c40
        have c40b1 : ((strOfNums t190).toList != (strOfNums t193).toList) = false := bne_eq_false_iff_eq.mpr c40
        clear c40
        have H' := Aside0.mk H
        clear H
        try go_wp2
        have n0_ := Aside0.mk (Kd.R_drew HO_5.out)
        have n1_ := Aside0.mk (Kd.R_drew HO_6.out)
        have n2_ := Aside0.mk (Kd.R_drew HO_7.out)
        have n3_ := Aside0.mk (Kd.R_drew HO_8.out)
        have n4_ := Aside0.mk (Kd.R_drew HO_9.out)
        have n5_ := Aside0.mk (Kd.R_drew HO_10.out)
        have n6_ := Aside0.mk (Kd.R_drew HO177.out)
        have n7_ := Aside0.mk (below_drew1 HB.out)
        clear HO_5
        clear HO_6
        clear HO_7
        clear HO_8
        clear HO_9
        clear HO_10
        clear HO177
        clear HB
        have HO_5 := n0_
        have HO_6 := n1_
        have HO_7 := n2_
        have HO_8 := n3_
        have HO_9 := n4_
        have HO_10 := n5_
        have HO177 := n6_
        have HB := n7_
        clear n0_ n1_ n2_ n3_ n4_ n5_ n6_ n7_
        have hcv42 := own_string (P := Try.prog) Try.underlying23 Try.underlying5 Try.underlying9 (Kd.own_of_R HO_6.out); have hcv42d := fun n_ => own_string (P := Try.prog) Try.underlying23 Try.underlying5 Try.underlying9 (Kd.own_of_R (Kd.R_drewN HO_6.out n_))
        refine start_ (n := 45) (S := fun w' => (w'.cell? ⟨wz.heap.size, 0, none⟩ = some (.int .u64 a0) ∧ w'.cell? ⟨wz.heap.size, 1, none⟩ = some (.int .i64 a1) ∧ w'.cell? ⟨wz.heap.size, 2, none⟩ = some (.bool a2) ∧ w'.cell? ⟨wz.heap.size, 3, none⟩ = some (.slice A3 l3.length c3)) ∧ (Sem.run Try.prog (Go.convert 23 9 v160) w' = .ok (.string (strOfNums t159)) w') ∧ (Sem.run Try.prog (Go.convert 23 9 v166) w' = .ok (.string (strOfNums t165)) w') ∧ (Sem.run Try.prog (Go.convert 23 9 v176) w' = .ok (.string (strOfNums t175)) w') ∧ (Sem.run Try.prog (Go.convert 23 9 u10) w' = .ok (.string (strOfNums x10_1)) w')) (ds := []) #[i0,i0,i0,i0,i0,i0,i0,i0,i0,i0,i0,i0,i0,i0,i0,i0,i0,i0,i0,i0,i0,i0,i0,i0,i0,i0,i0,i0,i0,i0,i0,i0,i0,i0,i0,i0,i0,i0,i0,i0,i0,i0,i0,i0,i0] (by kernel_rfl) rfl rfl ⟨gW.kept4 HB.out HX.out, own_string (P := Try.prog) Try.underlying23 Try.underlying5 Try.underlying9 (Kd.own_of_R HO_6.out), own_string (P := Try.prog) Try.underlying23 Try.underlying5 Try.underlying9 (Kd.own_of_R HO_8.out), own_string (P := Try.prog) Try.underlying23 Try.underlying5 Try.underlying9 (Kd.own_of_R HO177.out), own_string (P := Try.prog) Try.underlying23 Try.underlying5 Try.underlying9 (Kd.own_of_R HO_10.out)⟩ (fun hHeld => ?_); refine with_tabW gW.tab10 gW.bits10 (fun HT_ HW_ => ?_)
        generalize w30.drew = w41 at HO_5 HO_6 HO_7 HO_8 HO_9 HO_10 HO177 HB hHeld ⊢
        refine pure_ (i := 0) (N := some 52) (v := ?_) (a' := ?_) #[i1,i0,i0,i0,i0,i0,i0,i0,i0,i0,i0,i0,i0,i0,i0,i0,i0,i0,i0,i0,i0,i0,i0,i0,i0,i0,i0,i0,i0,i0,i0,i0,i0,i0,i0,i0,i0,i0,i0,i0,i0,i0,i0,i0,i0] rfl rfl (any_of HT_.out (by kernel_rfl)) (fun _ _ _ h => h) (Or.inl ⟨by rfl, ?_⟩) ?_ ?_
        rotate_left; · intro w'; go_simp; with_reducible rfl
        rotate_left; · simp only [Act.put, q1_, q2_, q3_, i64_w, i32_w]; rfl
        refine take_ (i := 1) (N := some 53) (v := ?_) (a' := ?_) #[i1,i1,i0,i0,i0,i0,i0,i0,i0,i0,i0,i0,i0,i0,i0,i0,i0,i0,i0,i0,i0,i0,i0,i0,i0,i0,i0,i0,i0,i0,i0,i0,i0,i0,i0,i0,i0,i0,i0,i0,i0,i0,i0,i0,i0] rfl rfl (take_ofW HT_.out HW_.out (by kernel_rfl)) (fun _ _ _ h => h) (Or.inl ⟨by rfl, ?_⟩) hHeld ?_ ?_
        rotate_left; · rintro w' ⟨⟨s0, s1, s2, s3⟩, s4, s5, s6, s7⟩; go_simp; with_reducible rfl
        rotate_left; · simp only [Act.put, q1_, q2_, q3_, i64_w, i32_w]; rfl
        refine pure_ (i := 2) (N := some 54) (v := ?_) (a' := ?_) #[i1,i1,i1,i0,i0,i0,i0,i0,i0,i0,i0,i0,i0,i0,i0,i0,i0,i0,i0,i0,i0,i0,i0,i0,i0,i0,i0,i0,i0,i0,i0,i0,i0,i0,i0,i0,i0,i0,i0,i0,i0,i0,i0,i0,i0] rfl rfl (any_of HT_.out (by kernel_rfl)) (fun _ _ _ h => h) (Or.inl ⟨by rfl, ?_⟩) ?_ ?_
        rotate_left; · intro w'; go_simp; with_reducible rfl
        rotate_left; · simp only [Act.put, q1_, q2_, q3_, i64_w, i32_w]; rfl
        refine take_ (i := 3) (N := some 55) (v := ?_) (a' := ?_) #[i1,i1,i1,i1,i0,i0,i0,i0,i0,i0,i0,i0,i0,i0,i0,i0,i0,i0,i0,i0,i0,i0,i0,i0,i0,i0,i0,i0,i0,i0,i0,i0,i0,i0,i0,i0,i0,i0,i0,i0,i0,i0,i0,i0,i0] rfl rfl (take_ofW HT_.out HW_.out (by kernel_rfl)) (fun _ _ _ h => h) (Or.inl ⟨by rfl, ?_⟩) hHeld ?_ ?_
        rotate_left; · rintro w' ⟨⟨s0, s1, s2, s3⟩, s4, s5, s6, s7⟩; go_simp; with_reducible rfl
        rotate_left; · simp only [Act.put, q1_, q2_, q3_, i64_w, i32_w]; rfl
        refine one_ (i := 4) (N := some 56) #[i1,i1,i1,i1,i1,i0,i0,i0,i0,i0,i0,i0,i0,i0,i0,i0,i0,i0,i0,i0,i0,i0,i0,i0,i0,i0,i0,i0,i0,i0,i0,i0,i0,i0,i0,i0,i0,i0,i0,i0,i0,i0,i0,i0,i0] rfl rfl (one_of HT_.out (by kernel_rfl)) (by decide) (fun K hK => ?_)
        refine goes_ Try.func11 (by kernel_rfl) rfl #[.slice A3 l3.length c3] (by rfl) rfl rfl (by (try simp only [List.map_toArray, List.map_cons, List.map_nil]); first | done | rfl | (simp only [List.length_drop, List.length_take]; rfl)) ?_
        with_reducible refine (garnerref01_Bytes.calls k1 _ _ l3 t178 _ ?side1 ?side2 A31.out).mono ?_
        (case side1 => repeat (first | exact (Kd.C_below HR3.out HB.out) | (with_reducible refine Kd.C_alloc ?_ _) | (with_reducible refine Kd.C_drewN ?_ _) | (with_reducible refine Kd.C_drew ?_)))
        (case side2 => exact HC3.out)
        rintro e w43 ⟨v179, rfl, ho0, hb⟩
        refine ⟨_, rfl, ?_⟩
        have n0_ := Aside0.mk (Kd.R_elder' HO_5.out (Kd.R_base ho0) hb)
        have n1_ := Aside0.mk (Kd.R_elder' HO_6.out (Kd.R_base ho0) hb)
        have n2_ := Aside0.mk (Kd.R_elder' HO_7.out (Kd.R_base ho0) hb)
        have n3_ := Aside0.mk (Kd.R_elder' HO_8.out (Kd.R_base ho0) hb)
        have n4_ := Aside0.mk (Kd.R_elder' HO_9.out (Kd.R_base ho0) hb)
        have n5_ := Aside0.mk (Kd.R_elder' HO_10.out (Kd.R_base ho0) hb)
        have n6_ := Aside0.mk (Kd.R_elder' HO177.out (Kd.R_base ho0) hb)
        have n7_ := Aside0.mk (Kd.R_lower (Kd.R_new' (Kd.R_new' (Kd.R_new' (Kd.R_new' (Kd.R_new' (Kd.R_new' (Kd.R_new' ho0 (Kd.R_lt HO_5.out)) (Kd.R_lt HO_6.out)) (Kd.R_lt HO_7.out)) (Kd.R_lt HO_8.out)) (Kd.R_lt HO_9.out)) (Kd.R_lt HO_10.out)) (Kd.R_lt HO177.out)) (below_size (by repeat (first | (with_reducible first | exact HB.out | apply below_alloc | apply pw_below_drewN | apply below_drew1) | exact HB.out))))
        have n8_ := Aside0.mk (below_step (by repeat (first | (with_reducible first | exact HB.out | apply below_alloc | apply pw_below_drewN | apply below_drew1) | exact HB.out)) hb)
        clear HO_5
        clear HO_6
        clear HO_7
        clear HO_8
        clear HO_9
        clear HO_10
        clear HO177
        clear HB
        have HO_5 := n0_
        have HO_6 := n1_
        have HO_7 := n2_
        have HO_8 := n3_
        have HO_9 := n4_
        have HO_10 := n5_
        have HO177 := n6_
        have HO180 := n7_
        have HB := n8_
        clear n0_ n1_ n2_ n3_ n4_ n5_ n6_ n7_ n8_
        (try clear hb)
        (try clear hb2)
        (try clear hk)
        (try clear hi)
        (try clear ho0)
        have hcv45 := own_string (P := Try.prog) Try.underlying23 Try.underlying5 Try.underlying9 (Kd.own_of_R HO_8.out); have hcv45d := fun n_ => own_string (P := Try.prog) Try.underlying23 Try.underlying5 Try.underlying9 (Kd.own_of_R (Kd.R_drewN HO_8.out n_))
        refine hK.out _ _ ⟨gW.kept4 HB.out HX.out, own_string (P := Try.prog) Try.underlying23 Try.underlying5 Try.underlying9 (Kd.own_of_R HO_6.out), own_string (P := Try.prog) Try.underlying23 Try.underlying5 Try.underlying9 (Kd.own_of_R HO_8.out), own_string (P := Try.prog) Try.underlying23 Try.underlying5 Try.underlying9 (Kd.own_of_R HO177.out), own_string (P := Try.prog) Try.underlying23 Try.underlying5 Try.underlying9 (Kd.own_of_R HO_10.out)⟩ (fun hHeld => ?_)
        clear hK K
        refine norm_ (a' := ?_) ?_ ?_
        rotate_left
        · show Act.put _ (some 56) _ = _
          simp only [Act.put, q1_, q2_, q3_, i64_w, i32_w]
          rfl
        refine one_ (i := 5) (N := some 57) #[i1,i1,i1,i1,i1,i1,i0,i0,i0,i0,i0,i0,i0,i0,i0,i0,i0,i0,i0,i0,i0,i0,i0,i0,i0,i0,i0,i0,i0,i0,i0,i0,i0,i0,i0,i0,i0,i0,i0,i0,i0,i0,i0,i0,i0] rfl rfl (one_of HT_.out (by kernel_rfl)) (by decide) (fun K hK => ?_)
        have hcv44 := own_string (P := Try.prog) Try.underlying23 Try.underlying5 Try.underlying9 (Kd.own_of_R HO180.out); have hcv44d := fun n_ => own_string (P := Try.prog) Try.underlying23 Try.underlying5 Try.underlying9 (Kd.own_of_R (Kd.R_drewN HO180.out n_))
        refine value_ (w1 := ?_) (v := ?_) (by rfl) rfl ?_ ?_
        rotate_left 2
        · go_simp
          constructor
          · rfl
          rfl
        clear hcv44
        refine hK.out _ _ ⟨gW.kept4 HB.out HX.out, own_string (P := Try.prog) Try.underlying23 Try.underlying5 Try.underlying9 (Kd.own_of_R HO_6.out), own_string (P := Try.prog) Try.underlying23 Try.underlying5 Try.underlying9 (Kd.own_of_R HO_8.out), own_string (P := Try.prog) Try.underlying23 Try.underlying5 Try.underlying9 (Kd.own_of_R HO177.out), own_string (P := Try.prog) Try.underlying23 Try.underlying5 Try.underlying9 (Kd.own_of_R HO_10.out)⟩ (fun hHeld => ?_)
        clear hK K
        refine norm_ (a' := ?_) ?_ ?_
        rotate_left
        · show Act.put _ (some 57) _ = _
          simp only [Act.put, q1_, q2_, q3_, i64_w, i32_w]
          rfl
        refine pure_ (i := 6) (N := some 58) (v := ?_) (a' := ?_) #[i1,i1,i1,i1,i1,i1,i1,i0,i0,i0,i0,i0,i0,i0,i0,i0,i0,i0,i0,i0,i0,i0,i0,i0,i0,i0,i0,i0,i0,i0,i0,i0,i0,i0,i0,i0,i0,i0,i0,i0,i0,i0,i0,i0,i0] rfl rfl (any_of HT_.out (by kernel_rfl)) (fun _ _ _ h => h) (Or.inl ⟨by rfl, ?_⟩) ?_ ?_
        rotate_left; · intro w'; go_simp; with_reducible rfl
        rotate_left; · simp only [Act.put, q1_, q2_, q3_, i64_w, i32_w]; rfl
        refine pure_ (i := 7) (N := some 59) (v := ?_) (a' := ?_) #[i1,i1,i1,i1,i1,i1,i1,i1,i0,i0,i0,i0,i0,i0,i0,i0,i0,i0,i0,i0,i0,i0,i0,i0,i0,i0,i0,i0,i0,i0,i0,i0,i0,i0,i0,i0,i0,i0,i0,i0,i0,i0,i0,i0,i0] rfl rfl (any_of HT_.out (by kernel_rfl)) (fun _ _ _ h => h) (Or.inl ⟨by rfl, ?_⟩) ?_ ?_
        rotate_left; · intro w'; go_simp; with_reducible rfl
        rotate_left; · simp only [Act.put, q1_, q2_, q3_, i64_w, i32_w]; rfl
        refine pure_ (i := 8) (N := some 60) (v := ?_) (a' := ?_) #[i1,i1,i1,i1,i1,i1,i1,i1,i1,i0,i0,i0,i0,i0,i0,i0,i0,i0,i0,i0,i0,i0,i0,i0,i0,i0,i0,i0,i0,i0,i0,i0,i0,i0,i0,i0,i0,i0,i0,i0,i0,i0,i0,i0,i0] rfl rfl (any_of HT_.out (by kernel_rfl)) (fun _ _ _ h => h) (Or.inl ⟨by rfl, ?_⟩) ?_ ?_
        rotate_left; · intro w'; go_simp; with_reducible rfl
        rotate_left; · simp only [Act.put, q1_, q2_, q3_, i64_w, i32_w]; rfl
        refine take_ (i := 9) (N := some 61) (v := ?_) (a' := ?_) #[i1,i1,i1,i1,i1,i1,i1,i1,i1,i1,i0,i0,i0,i0,i0,i0,i0,i0,i0,i0,i0,i0,i0,i0,i0,i0,i0,i0,i0,i0,i0,i0,i0,i0,i0,i0,i0,i0,i0,i0,i0,i0,i0,i0,i0] rfl rfl (take_ofW HT_.out HW_.out (by kernel_rfl)) (fun _ _ _ h => h) (Or.inl ⟨by rfl, ?_⟩) hHeld ?_ ?_
        rotate_left; · rintro w' ⟨⟨s0, s1, s2, s3⟩, s4, s5, s6, s7⟩; go_simp; with_reducible rfl
        rotate_left; · simp only [Act.put, q1_, q2_, q3_, i64_w, i32_w]; rfl
        refine pure_ (i := 10) (N := some 62) (v := ?_) (a' := ?_) #[i1,i1,i1,i1,i1,i1,i1,i1,i1,i1,i1,i0,i0,i0,i0,i0,i0,i0,i0,i0,i0,i0,i0,i0,i0,i0,i0,i0,i0,i0,i0,i0,i0,i0,i0,i0,i0,i0,i0,i0,i0,i0,i0,i0,i0] rfl rfl (any_of HT_.out (by kernel_rfl)) (fun _ _ _ h => h) (Or.inl ⟨by rfl, ?_⟩) ?_ ?_
        rotate_left; · intro w'; go_simp; with_reducible rfl
        rotate_left; · simp only [Act.put, q1_, q2_, q3_, i64_w, i32_w]; rfl
        refine take_ (i := 11) (N := some 63) (v := ?_) (a' := ?_) #[i1,i1,i1,i1,i1,i1,i1,i1,i1,i1,i1,i1,i0,i0,i0,i0,i0,i0,i0,i0,i0,i0,i0,i0,i0,i0,i0,i0,i0,i0,i0,i0,i0,i0,i0,i0,i0,i0,i0,i0,i0,i0,i0,i0,i0] rfl rfl (take_ofW HT_.out HW_.out (by kernel_rfl)) (fun _ _ _ h => h) (Or.inl ⟨by rfl, ?_⟩) hHeld ?_ ?_
        rotate_left; · rintro w' ⟨⟨s0, s1, s2, s3⟩, s4, s5, s6, s7⟩; go_simp; with_reducible rfl
        rotate_left; · simp only [Act.put, q1_, q2_, q3_, i64_w, i32_w]; rfl
        refine one_ (i := 12) (N := some 64) #[i1,i1,i1,i1,i1,i1,i1,i1,i1,i1,i1,i1,i1,i0,i0,i0,i0,i0,i0,i0,i0,i0,i0,i0,i0,i0,i0,i0,i0,i0,i0,i0,i0,i0,i0,i0,i0,i0,i0,i0,i0,i0,i0,i0,i0] rfl rfl (one_of HT_.out (by kernel_rfl)) (by decide) (fun K hK => ?_)
        refine goes_ Try.func12 (by kernel_rfl) rfl #[.int .u64 a0] (by rfl) rfl rfl (by (try simp only [List.map_toArray, List.map_cons, List.map_nil]); first | done | rfl | (simp only [List.length_drop, List.length_take]; rfl)) ?_
        with_reducible refine (garnerref01_Number.calls k1 a0 t181 _ A33.out).mono ?_
        rintro e w46 ⟨v182, rfl, ho0, hb⟩
        refine ⟨_, rfl, ?_⟩
        have n0_ := Aside0.mk (Kd.R_elder' HO_5.out (Kd.R_base ho0) hb)
        have n1_ := Aside0.mk (Kd.R_elder' HO_6.out (Kd.R_base ho0) hb)
        have n2_ := Aside0.mk (Kd.R_elder' HO_7.out (Kd.R_base ho0) hb)
        have n3_ := Aside0.mk (Kd.R_elder' HO_8.out (Kd.R_base ho0) hb)
        have n4_ := Aside0.mk (Kd.R_elder' HO_9.out (Kd.R_base ho0) hb)
        have n5_ := Aside0.mk (Kd.R_elder' HO_10.out (Kd.R_base ho0) hb)
        have n6_ := Aside0.mk (Kd.R_elder' HO177.out (Kd.R_base ho0) hb)
        have n7_ := Aside0.mk (Kd.R_elder' HO180.out (Kd.R_base ho0) hb)
        have n8_ := Aside0.mk (Kd.R_lower (Kd.R_new' (Kd.R_new' (Kd.R_new' (Kd.R_new' (Kd.R_new' (Kd.R_new' (Kd.R_new' (Kd.R_new' ho0 (Kd.R_lt HO_5.out)) (Kd.R_lt HO_6.out)) (Kd.R_lt HO_7.out)) (Kd.R_lt HO_8.out)) (Kd.R_lt HO_9.out)) (Kd.R_lt HO_10.out)) (Kd.R_lt HO177.out)) (Kd.R_lt HO180.out)) (below_size (by repeat (first | (with_reducible first | exact HB.out | apply below_alloc | apply pw_below_drewN | apply below_drew1) | exact HB.out))))
        have n9_ := Aside0.mk (below_step (by repeat (first | (with_reducible first | exact HB.out | apply below_alloc | apply pw_below_drewN | apply below_drew1) | exact HB.out)) hb)
        clear HO_5
        clear HO_6
        clear HO_7
        clear HO_8
        clear HO_9
        clear HO_10
        clear HO177
        clear HO180
        clear HB
        have HO_5 := n0_
        have HO_6 := n1_
        have HO_7 := n2_
        have HO_8 := n3_
        have HO_9 := n4_
        have HO_10 := n5_
        have HO177 := n6_
        have HO180 := n7_
        have HO183 := n8_
        have HB := n9_
        clear n0_ n1_ n2_ n3_ n4_ n5_ n6_ n7_ n8_ n9_
        (try clear hb)
        (try clear hb2)
        (try clear hk)
        (try clear hi)
        (try clear ho0)
        refine hK.out _ _ ⟨gW.kept4 HB.out HX.out, own_string (P := Try.prog) Try.underlying23 Try.underlying5 Try.underlying9 (Kd.own_of_R HO_6.out), own_string (P := Try.prog) Try.underlying23 Try.underlying5 Try.underlying9 (Kd.own_of_R HO_8.out), own_string (P := Try.prog) Try.underlying23 Try.underlying5 Try.underlying9 (Kd.own_of_R HO177.out), own_string (P := Try.prog) Try.underlying23 Try.underlying5 Try.underlying9 (Kd.own_of_R HO_10.out)⟩ (fun hHeld => ?_)
        clear hK K
        refine norm_ (a' := ?_) ?_ ?_
        rotate_left
        · show Act.put _ (some 64) _ = _
          simp only [Act.put, q1_, q2_, q3_, i64_w, i32_w]
          rfl
        refine one_ (i := 13) (N := some 65) #[i1,i1,i1,i1,i1,i1,i1,i1,i1,i1,i1,i1,i1,i1,i0,i0,i0,i0,i0,i0,i0,i0,i0,i0,i0,i0,i0,i0,i0,i0,i0,i0,i0,i0,i0,i0,i0,i0,i0,i0,i0,i0,i0,i0,i0] rfl rfl (one_of HT_.out (by kernel_rfl)) (by decide) (fun K hK => ?_)
        have hcv47 := own_string (P := Try.prog) Try.underlying23 Try.underlying5 Try.underlying9 (Kd.own_of_R HO183.out); have hcv47d := fun n_ => own_string (P := Try.prog) Try.underlying23 Try.underlying5 Try.underlying9 (Kd.own_of_R (Kd.R_drewN HO183.out n_))
        refine value_ (w1 := ?_) (v := ?_) (by rfl) rfl ?_ ?_
        rotate_left 2
        · go_simp
          constructor
          · rfl
          rfl
        clear hcv47
        refine hK.out _ _ ⟨gW.kept4 HB.out HX.out, own_string (P := Try.prog) Try.underlying23 Try.underlying5 Try.underlying9 (Kd.own_of_R HO_6.out), own_string (P := Try.prog) Try.underlying23 Try.underlying5 Try.underlying9 (Kd.own_of_R HO_8.out), own_string (P := Try.prog) Try.underlying23 Try.underlying5 Try.underlying9 (Kd.own_of_R HO177.out), own_string (P := Try.prog) Try.underlying23 Try.underlying5 Try.underlying9 (Kd.own_of_R HO_10.out)⟩ (fun hHeld => ?_)
        clear hK K
        refine norm_ (a' := ?_) ?_ ?_
        rotate_left
        · show Act.put _ (some 65) _ = _
          simp only [Act.put, q1_, q2_, q3_, i64_w, i32_w]
          rfl
        refine pure_ (i := 14) (N := some 66) (v := ?_) (a' := ?_) #[i1,i1,i1,i1,i1,i1,i1,i1,i1,i1,i1,i1,i1,i1,i1,i0,i0,i0,i0,i0,i0,i0,i0,i0,i0,i0,i0,i0,i0,i0,i0,i0,i0,i0,i0,i0,i0,i0,i0,i0,i0,i0,i0,i0,i0] rfl rfl (any_of HT_.out (by kernel_rfl)) (fun _ _ _ h => h) (Or.inl ⟨by rfl, ?_⟩) ?_ ?_
        rotate_left; · intro w'; go_simp; with_reducible rfl
        rotate_left; · simp only [Act.put, q1_, q2_, q3_, i64_w, i32_w]; rfl
        refine pure_ (i := 15) (N := some 67) (v := ?_) (a' := ?_) #[i1,i1,i1,i1,i1,i1,i1,i1,i1,i1,i1,i1,i1,i1,i1,i1,i0,i0,i0,i0,i0,i0,i0,i0,i0,i0,i0,i0,i0,i0,i0,i0,i0,i0,i0,i0,i0,i0,i0,i0,i0,i0,i0,i0,i0] rfl rfl (any_of HT_.out (by kernel_rfl)) (fun _ _ _ h => h) (Or.inl ⟨by rfl, ?_⟩) ?_ ?_
        rotate_left; · intro w'; go_simp; with_reducible rfl
        rotate_left; · simp only [Act.put, q1_, q2_, q3_, i64_w, i32_w]; rfl
        refine pure_ (i := 16) (N := some 68) (v := ?_) (a' := ?_) #[i1,i1,i1,i1,i1,i1,i1,i1,i1,i1,i1,i1,i1,i1,i1,i1,i1,i0,i0,i0,i0,i0,i0,i0,i0,i0,i0,i0,i0,i0,i0,i0,i0,i0,i0,i0,i0,i0,i0,i0,i0,i0,i0,i0,i0] rfl rfl (any_of HT_.out (by kernel_rfl)) (fun _ _ _ h => h) (Or.inl ⟨by rfl, ?_⟩) ?_ ?_
        rotate_left; · intro w'; go_simp; with_reducible rfl
        rotate_left; · simp only [Act.put, q1_, q2_, q3_, i64_w, i32_w]; rfl
        refine pure_ (i := 17) (N := some 69) (v := ?_) (a' := ?_) #[i1,i1,i1,i1,i1,i1,i1,i1,i1,i1,i1,i1,i1,i1,i1,i1,i1,i1,i0,i0,i0,i0,i0,i0,i0,i0,i0,i0,i0,i0,i0,i0,i0,i0,i0,i0,i0,i0,i0,i0,i0,i0,i0,i0,i0] rfl rfl (any_of HT_.out (by kernel_rfl)) (fun _ _ _ h => h) (Or.inl ⟨by rfl, ?_⟩) ?_ ?_
        rotate_left; · intro w'; go_simp; with_reducible rfl
        rotate_left; · simp only [Act.put, q1_, q2_, q3_, i64_w, i32_w]; rfl
        refine take_ (i := 18) (N := some 70) (v := ?_) (a' := ?_) #[i1,i1,i1,i1,i1,i1,i1,i1,i1,i1,i1,i1,i1,i1,i1,i1,i1,i1,i1,i0,i0,i0,i0,i0,i0,i0,i0,i0,i0,i0,i0,i0,i0,i0,i0,i0,i0,i0,i0,i0,i0,i0,i0,i0,i0] rfl rfl (take_ofW HT_.out HW_.out (by kernel_rfl)) (fun _ _ _ h => h) (Or.inl ⟨by rfl, ?_⟩) hHeld ?_ ?_
        rotate_left; · rintro w' ⟨⟨s0, s1, s2, s3⟩, s4, s5, s6, s7⟩; go_simp; with_reducible rfl
        rotate_left; · simp only [Act.put, q1_, q2_, q3_, i64_w, i32_w]; rfl
        refine pure_ (i := 21) (N := some 73) (v := ?_) (a' := ?_) #[i1,i1,i1,i1,i1,i1,i1,i1,i1,i1,i1,i1,i1,i1,i1,i1,i1,i1,i1,i0,i0,i1,i0,i0,i0,i0,i0,i0,i0,i0,i0,i0,i0,i0,i0,i0,i0,i0,i0,i0,i0,i0,i0,i0,i0] rfl rfl (any_of HT_.out (by kernel_rfl)) (fun _ _ _ h => h) (Or.inl ⟨by rfl, ?_⟩) ?_ ?_
        rotate_left; · intro w'; go_simp; with_reducible rfl
        rotate_left; · simp only [Act.put, q1_, q2_, q3_, i64_w, i32_w]; rfl
        refine take_ (i := 22) (N := some 74) (v := ?_) (a' := ?_) #[i1,i1,i1,i1,i1,i1,i1,i1,i1,i1,i1,i1,i1,i1,i1,i1,i1,i1,i1,i0,i0,i1,i1,i0,i0,i0,i0,i0,i0,i0,i0,i0,i0,i0,i0,i0,i0,i0,i0,i0,i0,i0,i0,i0,i0] rfl rfl (take_ofW HT_.out HW_.out (by kernel_rfl)) (fun _ _ _ h => h) (Or.inl ⟨by rfl, ?_⟩) hHeld ?_ ?_
        rotate_left; · rintro w' ⟨⟨s0, s1, s2, s3⟩, s4, s5, s6, s7⟩; go_simp; with_reducible rfl
        rotate_left; · simp only [Act.put, q1_, q2_, q3_, i64_w, i32_w]; rfl
        refine one_ (i := 19) (N := some 71) #[i1,i1,i1,i1,i1,i1,i1,i1,i1,i1,i1,i1,i1,i1,i1,i1,i1,i1,i1,i1,i0,i1,i1,i0,i0,i0,i0,i0,i0,i0,i0,i0,i0,i0,i0,i0,i0,i0,i0,i0,i0,i0,i0,i0,i0] rfl rfl (one_of HT_.out (by kernel_rfl)) (by decide) (fun K hK => ?_)
        refine goes_ Try.func13 (by kernel_rfl) rfl #[.int .i64 a1] (by rfl) rfl rfl (by (try simp only [List.map_toArray, List.map_cons, List.map_nil]); first | done | rfl | (simp only [List.length_drop, List.length_take]; rfl)) ?_
        with_reducible refine (wire_Signed.calls a1 t184 _ A35.out).mono ?_
        rintro e w48 ⟨v185, rfl, ho0, hb⟩
        refine ⟨_, rfl, ?_⟩
        have n0_ := Aside0.mk (Kd.R_elder' HO_5.out (Kd.R_base ho0) hb)
        have n1_ := Aside0.mk (Kd.R_elder' HO_6.out (Kd.R_base ho0) hb)
        have n2_ := Aside0.mk (Kd.R_elder' HO_7.out (Kd.R_base ho0) hb)
        have n3_ := Aside0.mk (Kd.R_elder' HO_8.out (Kd.R_base ho0) hb)
        have n4_ := Aside0.mk (Kd.R_elder' HO_9.out (Kd.R_base ho0) hb)
        have n5_ := Aside0.mk (Kd.R_elder' HO_10.out (Kd.R_base ho0) hb)
        have n6_ := Aside0.mk (Kd.R_elder' HO177.out (Kd.R_base ho0) hb)
        have n7_ := Aside0.mk (Kd.R_elder' HO180.out (Kd.R_base ho0) hb)
        have n8_ := Aside0.mk (Kd.R_elder' HO183.out (Kd.R_base ho0) hb)
        have n9_ := Aside0.mk (Kd.R_lower (Kd.R_new' (Kd.R_new' (Kd.R_new' (Kd.R_new' (Kd.R_new' (Kd.R_new' (Kd.R_new' (Kd.R_new' (Kd.R_new' ho0 (Kd.R_lt HO_5.out)) (Kd.R_lt HO_6.out)) (Kd.R_lt HO_7.out)) (Kd.R_lt HO_8.out)) (Kd.R_lt HO_9.out)) (Kd.R_lt HO_10.out)) (Kd.R_lt HO177.out)) (Kd.R_lt HO180.out)) (Kd.R_lt HO183.out)) (below_size (by repeat (first | (with_reducible first | exact HB.out | apply below_alloc | apply pw_below_drewN | apply below_drew1) | exact HB.out))))
        have n10_ := Aside0.mk (below_step (by repeat (first | (with_reducible first | exact HB.out | apply below_alloc | apply pw_below_drewN | apply below_drew1) | exact HB.out)) hb)
        clear HO_5
        clear HO_6
        clear HO_7
        clear HO_8
        clear HO_9
        clear HO_10
        clear HO177
        clear HO180
        clear HO183
        clear HB
        have HO_5 := n0_
        have HO_6 := n1_
        have HO_7 := n2_
        have HO_8 := n3_
        have HO_9 := n4_
        have HO_10 := n5_
        have HO177 := n6_
        have HO180 := n7_
        have HO183 := n8_
        have HO186 := n9_
        have HB := n10_
        clear n0_ n1_ n2_ n3_ n4_ n5_ n6_ n7_ n8_ n9_ n10_
        (try clear hb)
        (try clear hb2)
        (try clear hk)
        (try clear hi)
        (try clear ho0)
        refine hK.out _ _ ⟨gW.kept4 HB.out HX.out, own_string (P := Try.prog) Try.underlying23 Try.underlying5 Try.underlying9 (Kd.own_of_R HO_6.out), own_string (P := Try.prog) Try.underlying23 Try.underlying5 Try.underlying9 (Kd.own_of_R HO_8.out), own_string (P := Try.prog) Try.underlying23 Try.underlying5 Try.underlying9 (Kd.own_of_R HO177.out), own_string (P := Try.prog) Try.underlying23 Try.underlying5 Try.underlying9 (Kd.own_of_R HO_10.out)⟩ (fun hHeld => ?_)
        clear hK K
        refine norm_ (a' := ?_) ?_ ?_
        rotate_left
        · show Act.put _ (some 71) _ = _
          simp only [Act.put, q1_, q2_, q3_, i64_w, i32_w]
          rfl
        refine gW.stronger_ (S' := fun w' => ((w'.cell? ⟨wz.heap.size, 0, none⟩ = some (.int .u64 a0) ∧ w'.cell? ⟨wz.heap.size, 1, none⟩ = some (.int .i64 a1) ∧ w'.cell? ⟨wz.heap.size, 2, none⟩ = some (.bool a2) ∧ w'.cell? ⟨wz.heap.size, 3, none⟩ = some (.slice A3 l3.length c3)) ∧ (Sem.run Try.prog (Go.convert 23 9 v160) w' = .ok (.string (strOfNums t159)) w') ∧ (Sem.run Try.prog (Go.convert 23 9 v166) w' = .ok (.string (strOfNums t165)) w') ∧ (Sem.run Try.prog (Go.convert 23 9 v176) w' = .ok (.string (strOfNums t175)) w') ∧ (Sem.run Try.prog (Go.convert 23 9 u10) w' = .ok (.string (strOfNums x10_1)) w')) ∧ (Sem.run Try.prog (Go.convert 23 9 v185) w' = .ok (.string (strOfNums t184)) w')) (fun _ h => h.1) ⟨hHeld, own_string (P := Try.prog) Try.underlying23 Try.underlying5 Try.underlying9 (Kd.own_of_R HO186.out)⟩ ?_
        have hHeld := And.intro hHeld (own_string (P := Try.prog) Try.underlying23 Try.underlying5 Try.underlying9 (Kd.own_of_R HO186.out))
        refine take_ (i := 20) (N := some 72) (v := ?_) (a' := ?_) #[i1,i1,i1,i1,i1,i1,i1,i1,i1,i1,i1,i1,i1,i1,i1,i1,i1,i1,i1,i1,i1,i1,i1,i0,i0,i0,i0,i0,i0,i0,i0,i0,i0,i0,i0,i0,i0,i0,i0,i0,i0,i0,i0,i0,i0] rfl rfl (take_ofW HT_.out HW_.out (by kernel_rfl)) (fun _ _ _ h => h) (Or.inl ⟨by rfl, ?_⟩) hHeld ?_ ?_
        rotate_left; · rintro w' ⟨⟨⟨s0, s1, s2, s3⟩, s4, s5, s6, s7⟩, z20⟩; go_simp; with_reducible rfl
        rotate_left; · simp only [Act.put, q1_, q2_, q3_, i64_w, i32_w]; rfl
        refine one_ (i := 23) (N := some 75) #[i1,i1,i1,i1,i1,i1,i1,i1,i1,i1,i1,i1,i1,i1,i1,i1,i1,i1,i1,i1,i1,i1,i1,i1,i0,i0,i0,i0,i0,i0,i0,i0,i0,i0,i0,i0,i0,i0,i0,i0,i0,i0,i0,i0,i0] rfl rfl (one_of HT_.out (by kernel_rfl)) (by decide) (fun K hK => ?_)
        refine goes_ Try.func14 (by kernel_rfl) rfl #[.int .i64 a1] (by rfl) rfl rfl (by (try simp only [List.map_toArray, List.map_cons, List.map_nil]); first | done | rfl | (simp only [List.length_drop, List.length_take]; rfl)) ?_
        with_reducible refine (garnerref01_Signed.calls k1 a1 t187 _ A36.out).mono ?_
        rintro e w50 ⟨v188, rfl, ho0, hb⟩
        refine ⟨_, rfl, ?_⟩
        have n0_ := Aside0.mk (Kd.R_elder' HO_5.out (Kd.R_base ho0) hb)
        have n1_ := Aside0.mk (Kd.R_elder' HO_6.out (Kd.R_base ho0) hb)
        have n2_ := Aside0.mk (Kd.R_elder' HO_7.out (Kd.R_base ho0) hb)
        have n3_ := Aside0.mk (Kd.R_elder' HO_8.out (Kd.R_base ho0) hb)
        have n4_ := Aside0.mk (Kd.R_elder' HO_9.out (Kd.R_base ho0) hb)
        have n5_ := Aside0.mk (Kd.R_elder' HO_10.out (Kd.R_base ho0) hb)
        have n6_ := Aside0.mk (Kd.R_elder' HO177.out (Kd.R_base ho0) hb)
        have n7_ := Aside0.mk (Kd.R_elder' HO180.out (Kd.R_base ho0) hb)
        have n8_ := Aside0.mk (Kd.R_elder' HO183.out (Kd.R_base ho0) hb)
        have n9_ := Aside0.mk (Kd.R_elder' HO186.out (Kd.R_base ho0) hb)
        have n10_ := Aside0.mk (Kd.R_lower (Kd.R_new' (Kd.R_new' (Kd.R_new' (Kd.R_new' (Kd.R_new' (Kd.R_new' (Kd.R_new' (Kd.R_new' (Kd.R_new' (Kd.R_new' ho0 (Kd.R_lt HO_5.out)) (Kd.R_lt HO_6.out)) (Kd.R_lt HO_7.out)) (Kd.R_lt HO_8.out)) (Kd.R_lt HO_9.out)) (Kd.R_lt HO_10.out)) (Kd.R_lt HO177.out)) (Kd.R_lt HO180.out)) (Kd.R_lt HO183.out)) (Kd.R_lt HO186.out)) (below_size (by repeat (first | (with_reducible first | exact HB.out | apply below_alloc | apply pw_below_drewN | apply below_drew1) | exact HB.out))))
        have n11_ := Aside0.mk (below_step (by repeat (first | (with_reducible first | exact HB.out | apply below_alloc | apply pw_below_drewN | apply below_drew1) | exact HB.out)) hb)
        clear HO_5
        clear HO_6
        clear HO_7
        clear HO_8
        clear HO_9
        clear HO_10
        clear HO177
        clear HO180
        clear HO183
        clear HO186
        clear HB
        have HO_5 := n0_
        have HO_6 := n1_
        have HO_7 := n2_
        have HO_8 := n3_
        have HO_9 := n4_
        have HO_10 := n5_
        have HO177 := n6_
        have HO180 := n7_
        have HO183 := n8_
        have HO186 := n9_
        have HO189 := n10_
        have HB := n11_
        clear n0_ n1_ n2_ n3_ n4_ n5_ n6_ n7_ n8_ n9_ n10_ n11_
        (try clear hb)
        (try clear hb2)
        (try clear hk)
        (try clear hi)
        (try clear ho0)
        refine hK.out _ _ ⟨⟨gW.kept4 HB.out HX.out, own_string (P := Try.prog) Try.underlying23 Try.underlying5 Try.underlying9 (Kd.own_of_R HO_6.out), own_string (P := Try.prog) Try.underlying23 Try.underlying5 Try.underlying9 (Kd.own_of_R HO_8.out), own_string (P := Try.prog) Try.underlying23 Try.underlying5 Try.underlying9 (Kd.own_of_R HO177.out), own_string (P := Try.prog) Try.underlying23 Try.underlying5 Try.underlying9 (Kd.own_of_R HO_10.out)⟩, own_string (P := Try.prog) Try.underlying23 Try.underlying5 Try.underlying9 (Kd.own_of_R HO186.out)⟩ (fun hHeld => ?_)
        clear hK K
        refine norm_ (a' := ?_) ?_ ?_
        rotate_left
        · show Act.put _ (some 75) _ = _
          simp only [Act.put, q1_, q2_, q3_, i64_w, i32_w]
          rfl
        refine one_ (i := 24) (N := some 76) #[i1,i1,i1,i1,i1,i1,i1,i1,i1,i1,i1,i1,i1,i1,i1,i1,i1,i1,i1,i1,i1,i1,i1,i1,i1,i0,i0,i0,i0,i0,i0,i0,i0,i0,i0,i0,i0,i0,i0,i0,i0,i0,i0,i0,i0] rfl rfl (one_of HT_.out (by kernel_rfl)) (by decide) (fun K hK => ?_)
        have hcv51 := own_string (P := Try.prog) Try.underlying23 Try.underlying5 Try.underlying9 (Kd.own_of_R HO189.out); have hcv51d := fun n_ => own_string (P := Try.prog) Try.underlying23 Try.underlying5 Try.underlying9 (Kd.own_of_R (Kd.R_drewN HO189.out n_))
        refine value_ (w1 := ?_) (v := ?_) (by rfl) rfl ?_ ?_
        rotate_left 2
        · go_simp
          constructor
          · rfl
          rfl
        clear hcv51
        refine hK.out _ _ ⟨⟨gW.kept4 HB.out HX.out, own_string (P := Try.prog) Try.underlying23 Try.underlying5 Try.underlying9 (Kd.own_of_R HO_6.out), own_string (P := Try.prog) Try.underlying23 Try.underlying5 Try.underlying9 (Kd.own_of_R HO_8.out), own_string (P := Try.prog) Try.underlying23 Try.underlying5 Try.underlying9 (Kd.own_of_R HO177.out), own_string (P := Try.prog) Try.underlying23 Try.underlying5 Try.underlying9 (Kd.own_of_R HO_10.out)⟩, own_string (P := Try.prog) Try.underlying23 Try.underlying5 Try.underlying9 (Kd.own_of_R HO186.out)⟩ (fun hHeld => ?_)
        clear hK K
        refine norm_ (a' := ?_) ?_ ?_
        rotate_left
        · show Act.put _ (some 76) _ = _
          simp only [Act.put, q1_, q2_, q3_, i64_w, i32_w]
          rfl
        refine pure_ (i := 25) (N := some 77) (v := ?_) (a' := ?_) #[i1,i1,i1,i1,i1,i1,i1,i1,i1,i1,i1,i1,i1,i1,i1,i1,i1,i1,i1,i1,i1,i1,i1,i1,i1,i1,i0,i0,i0,i0,i0,i0,i0,i0,i0,i0,i0,i0,i0,i0,i0,i0,i0,i0,i0] rfl rfl (any_of HT_.out (by kernel_rfl)) (fun _ _ _ h => h) (Or.inl ⟨by rfl, ?_⟩) ?_ ?_
        rotate_left; · intro w'; go_simp; with_reducible rfl
        rotate_left; · simp only [Act.put, q1_, q2_, q3_, i64_w, i32_w]; rfl
        refine pure_ (i := 26) (N := some 78) (v := ?_) (a' := ?_) #[i1,i1,i1,i1,i1,i1,i1,i1,i1,i1,i1,i1,i1,i1,i1,i1,i1,i1,i1,i1,i1,i1,i1,i1,i1,i1,i1,i0,i0,i0,i0,i0,i0,i0,i0,i0,i0,i0,i0,i0,i0,i0,i0,i0,i0] rfl rfl (any_of HT_.out (by kernel_rfl)) (fun _ _ _ h => h) (Or.inl ⟨by rfl, ?_⟩) ?_ ?_
        rotate_left; · intro w'; go_simp; with_reducible rfl
        rotate_left; · simp only [Act.put, q1_, q2_, q3_, i64_w, i32_w]; rfl
        refine pure_ (i := 27) (N := some 79) (v := ?_) (a' := ?_) #[i1,i1,i1,i1,i1,i1,i1,i1,i1,i1,i1,i1,i1,i1,i1,i1,i1,i1,i1,i1,i1,i1,i1,i1,i1,i1,i1,i1,i0,i0,i0,i0,i0,i0,i0,i0,i0,i0,i0,i0,i0,i0,i0,i0,i0] rfl rfl (any_of HT_.out (by kernel_rfl)) (fun _ _ _ h => h) (Or.inl ⟨by rfl, ?_⟩) ?_ ?_
        rotate_left; · intro w'; go_simp; with_reducible rfl
        rotate_left; · simp only [Act.put, q1_, q2_, q3_, i64_w, i32_w]; rfl
        refine pure_ (i := 28) (N := some 80) (v := ?_) (a' := ?_) #[i1,i1,i1,i1,i1,i1,i1,i1,i1,i1,i1,i1,i1,i1,i1,i1,i1,i1,i1,i1,i1,i1,i1,i1,i1,i1,i1,i1,i1,i0,i0,i0,i0,i0,i0,i0,i0,i0,i0,i0,i0,i0,i0,i0,i0] rfl rfl (any_of HT_.out (by kernel_rfl)) (fun _ _ _ h => h) (Or.inl ⟨by rfl, ?_⟩) ?_ ?_
        rotate_left; · intro w'; go_simp; with_reducible rfl
        rotate_left; · simp only [Act.put, q1_, q2_, q3_, i64_w, i32_w]; rfl
        refine take_ (i := 29) (N := some 81) (v := ?_) (a' := ?_) #[i1,i1,i1,i1,i1,i1,i1,i1,i1,i1,i1,i1,i1,i1,i1,i1,i1,i1,i1,i1,i1,i1,i1,i1,i1,i1,i1,i1,i1,i1,i0,i0,i0,i0,i0,i0,i0,i0,i0,i0,i0,i0,i0,i0,i0] rfl rfl (take_ofW HT_.out HW_.out (by kernel_rfl)) (fun _ _ _ h => h) (Or.inl ⟨by rfl, ?_⟩) hHeld ?_ ?_
        rotate_left; · rintro w' ⟨⟨⟨s0, s1, s2, s3⟩, s4, s5, s6, s7⟩, z20⟩; go_simp; with_reducible rfl
        rotate_left; · simp only [Act.put, q1_, q2_, q3_, i64_w, i32_w]; rfl
        refine pure_ (i := 32) (N := some 84) (v := ?_) (a' := ?_) #[i1,i1,i1,i1,i1,i1,i1,i1,i1,i1,i1,i1,i1,i1,i1,i1,i1,i1,i1,i1,i1,i1,i1,i1,i1,i1,i1,i1,i1,i1,i0,i0,i1,i0,i0,i0,i0,i0,i0,i0,i0,i0,i0,i0,i0] rfl rfl (any_of HT_.out (by kernel_rfl)) (fun _ _ _ h => h) (Or.inl ⟨by rfl, ?_⟩) ?_ ?_
        rotate_left; · intro w'; go_simp; with_reducible rfl
        rotate_left; · simp only [Act.put, q1_, q2_, q3_, i64_w, i32_w]; rfl
        refine take_ (i := 33) (N := some 85) (v := ?_) (a' := ?_) #[i1,i1,i1,i1,i1,i1,i1,i1,i1,i1,i1,i1,i1,i1,i1,i1,i1,i1,i1,i1,i1,i1,i1,i1,i1,i1,i1,i1,i1,i1,i0,i0,i1,i1,i0,i0,i0,i0,i0,i0,i0,i0,i0,i0,i0] rfl rfl (take_ofW HT_.out HW_.out (by kernel_rfl)) (fun _ _ _ h => h) (Or.inl ⟨by rfl, ?_⟩) hHeld ?_ ?_
        rotate_left; · rintro w' ⟨⟨⟨s0, s1, s2, s3⟩, s4, s5, s6, s7⟩, z20⟩; go_simp; with_reducible rfl
        rotate_left; · simp only [Act.put, q1_, q2_, q3_, i64_w, i32_w]; rfl
        refine one_ (i := 30) (N := some 82) #[i1,i1,i1,i1,i1,i1,i1,i1,i1,i1,i1,i1,i1,i1,i1,i1,i1,i1,i1,i1,i1,i1,i1,i1,i1,i1,i1,i1,i1,i1,i1,i0,i1,i1,i0,i0,i0,i0,i0,i0,i0,i0,i0,i0,i0] rfl rfl (one_of HT_.out (by kernel_rfl)) (by decide) (fun K hK => ?_)
        refine goes_ Try.func15 (by kernel_rfl) rfl #[.bool a2] (by rfl) rfl rfl (by (try simp only [List.map_toArray, List.map_cons, List.map_nil]); first | done | rfl | (simp only [List.length_drop, List.length_take]; rfl)) ?_
        with_reducible refine (wire_Flag.calls a2 t190 _ A38.out).mono ?_
        rintro e w52 ⟨v191, rfl, ho0, hb⟩
        refine ⟨_, rfl, ?_⟩
        have n0_ := Aside0.mk (Kd.R_elder' HO_5.out (Kd.R_base ho0) hb)
        have n1_ := Aside0.mk (Kd.R_elder' HO_6.out (Kd.R_base ho0) hb)
        have n2_ := Aside0.mk (Kd.R_elder' HO_7.out (Kd.R_base ho0) hb)
        have n3_ := Aside0.mk (Kd.R_elder' HO_8.out (Kd.R_base ho0) hb)
        have n4_ := Aside0.mk (Kd.R_elder' HO_9.out (Kd.R_base ho0) hb)
        have n5_ := Aside0.mk (Kd.R_elder' HO_10.out (Kd.R_base ho0) hb)
        have n6_ := Aside0.mk (Kd.R_elder' HO177.out (Kd.R_base ho0) hb)
        have n7_ := Aside0.mk (Kd.R_elder' HO180.out (Kd.R_base ho0) hb)
        have n8_ := Aside0.mk (Kd.R_elder' HO183.out (Kd.R_base ho0) hb)
        have n9_ := Aside0.mk (Kd.R_elder' HO186.out (Kd.R_base ho0) hb)
        have n10_ := Aside0.mk (Kd.R_elder' HO189.out (Kd.R_base ho0) hb)
        have n11_ := Aside0.mk (Kd.R_lower (Kd.R_new' (Kd.R_new' (Kd.R_new' (Kd.R_new' (Kd.R_new' (Kd.R_new' (Kd.R_new' (Kd.R_new' (Kd.R_new' (Kd.R_new' (Kd.R_new' ho0 (Kd.R_lt HO_5.out)) (Kd.R_lt HO_6.out)) (Kd.R_lt HO_7.out)) (Kd.R_lt HO_8.out)) (Kd.R_lt HO_9.out)) (Kd.R_lt HO_10.out)) (Kd.R_lt HO177.out)) (Kd.R_lt HO180.out)) (Kd.R_lt HO183.out)) (Kd.R_lt HO186.out)) (Kd.R_lt HO189.out)) (below_size (by repeat (first | (with_reducible first | exact HB.out | apply below_alloc | apply pw_below_drewN | apply below_drew1) | exact HB.out))))
        have n12_ := Aside0.mk (below_step (by repeat (first | (with_reducible first | exact HB.out | apply below_alloc | apply pw_below_drewN | apply below_drew1) | exact HB.out)) hb)
        clear HO_5
        clear HO_6
        clear HO_7
        clear HO_8
        clear HO_9
        clear HO_10
        clear HO177
        clear HO180
        clear HO183
        clear HO186
        clear HO189
        clear HB
        have HO_5 := n0_
        have HO_6 := n1_
        have HO_7 := n2_
        have HO_8 := n3_
        have HO_9 := n4_
        have HO_10 := n5_
        have HO177 := n6_
        have HO180 := n7_
        have HO183 := n8_
        have HO186 := n9_
        have HO189 := n10_
        have HO192 := n11_
        have HB := n12_
        clear n0_ n1_ n2_ n3_ n4_ n5_ n6_ n7_ n8_ n9_ n10_ n11_ n12_
        (try clear hb)
        (try clear hb2)
        (try clear hk)
        (try clear hi)
        (try clear ho0)
        refine hK.out _ _ ⟨⟨gW.kept4 HB.out HX.out, own_string (P := Try.prog) Try.underlying23 Try.underlying5 Try.underlying9 (Kd.own_of_R HO_6.out), own_string (P := Try.prog) Try.underlying23 Try.underlying5 Try.underlying9 (Kd.own_of_R HO_8.out), own_string (P := Try.prog) Try.underlying23 Try.underlying5 Try.underlying9 (Kd.own_of_R HO177.out), own_string (P := Try.prog) Try.underlying23 Try.underlying5 Try.underlying9 (Kd.own_of_R HO_10.out)⟩, own_string (P := Try.prog) Try.underlying23 Try.underlying5 Try.underlying9 (Kd.own_of_R HO186.out)⟩ (fun hHeld => ?_)
        clear hK K
        refine norm_ (a' := ?_) ?_ ?_
        rotate_left
        · show Act.put _ (some 82) _ = _
          simp only [Act.put, q1_, q2_, q3_, i64_w, i32_w]
          rfl
        refine gW.stronger_ (S' := fun w' => (((w'.cell? ⟨wz.heap.size, 0, none⟩ = some (.int .u64 a0) ∧ w'.cell? ⟨wz.heap.size, 1, none⟩ = some (.int .i64 a1) ∧ w'.cell? ⟨wz.heap.size, 2, none⟩ = some (.bool a2) ∧ w'.cell? ⟨wz.heap.size, 3, none⟩ = some (.slice A3 l3.length c3)) ∧ (Sem.run Try.prog (Go.convert 23 9 v160) w' = .ok (.string (strOfNums t159)) w') ∧ (Sem.run Try.prog (Go.convert 23 9 v166) w' = .ok (.string (strOfNums t165)) w') ∧ (Sem.run Try.prog (Go.convert 23 9 v176) w' = .ok (.string (strOfNums t175)) w') ∧ (Sem.run Try.prog (Go.convert 23 9 u10) w' = .ok (.string (strOfNums x10_1)) w')) ∧ (Sem.run Try.prog (Go.convert 23 9 v185) w' = .ok (.string (strOfNums t184)) w')) ∧ (Sem.run Try.prog (Go.convert 23 9 v191) w' = .ok (.string (strOfNums t190)) w')) (fun _ h => h.1) ⟨hHeld, own_string (P := Try.prog) Try.underlying23 Try.underlying5 Try.underlying9 (Kd.own_of_R HO192.out)⟩ ?_
        have hHeld := And.intro hHeld (own_string (P := Try.prog) Try.underlying23 Try.underlying5 Try.underlying9 (Kd.own_of_R HO192.out))
        refine take_ (i := 31) (N := some 83) (v := ?_) (a' := ?_) #[i1,i1,i1,i1,i1,i1,i1,i1,i1,i1,i1,i1,i1,i1,i1,i1,i1,i1,i1,i1,i1,i1,i1,i1,i1,i1,i1,i1,i1,i1,i1,i1,i1,i1,i0,i0,i0,i0,i0,i0,i0,i0,i0,i0,i0] rfl rfl (take_ofW HT_.out HW_.out (by kernel_rfl)) (fun _ _ _ h => h) (Or.inl ⟨by rfl, ?_⟩) hHeld ?_ ?_
        rotate_left; · rintro w' ⟨⟨⟨⟨s0, s1, s2, s3⟩, s4, s5, s6, s7⟩, z20⟩, z31⟩; go_simp; with_reducible rfl
        rotate_left; · simp only [Act.put, q1_, q2_, q3_, i64_w, i32_w]; rfl
        refine one_ (i := 34) (N := some 86) #[i1,i1,i1,i1,i1,i1,i1,i1,i1,i1,i1,i1,i1,i1,i1,i1,i1,i1,i1,i1,i1,i1,i1,i1,i1,i1,i1,i1,i1,i1,i1,i1,i1,i1,i1,i0,i0,i0,i0,i0,i0,i0,i0,i0,i0] rfl rfl (one_of HT_.out (by kernel_rfl)) (by decide) (fun K hK => ?_)
        refine goes_ Try.func16 (by kernel_rfl) rfl #[.bool a2] (by rfl) rfl rfl (by (try simp only [List.map_toArray, List.map_cons, List.map_nil]); first | done | rfl | (simp only [List.length_drop, List.length_take]; rfl)) ?_
        with_reducible refine (garnerref01_Flag.calls a2 t193 _ A39.out).mono ?_
        rintro e w54 ⟨v194, rfl, ho0, hb⟩
        refine ⟨_, rfl, ?_⟩
        have n0_ := Aside0.mk (Kd.R_elder' HO_5.out (Kd.R_base ho0) hb)
        have n1_ := Aside0.mk (Kd.R_elder' HO_6.out (Kd.R_base ho0) hb)
        have n2_ := Aside0.mk (Kd.R_elder' HO_7.out (Kd.R_base ho0) hb)
        have n3_ := Aside0.mk (Kd.R_elder' HO_8.out (Kd.R_base ho0) hb)
        have n4_ := Aside0.mk (Kd.R_elder' HO_9.out (Kd.R_base ho0) hb)
        have n5_ := Aside0.mk (Kd.R_elder' HO_10.out (Kd.R_base ho0) hb)
        have n6_ := Aside0.mk (Kd.R_elder' HO177.out (Kd.R_base ho0) hb)
        have n7_ := Aside0.mk (Kd.R_elder' HO180.out (Kd.R_base ho0) hb)
        have n8_ := Aside0.mk (Kd.R_elder' HO183.out (Kd.R_base ho0) hb)
        have n9_ := Aside0.mk (Kd.R_elder' HO186.out (Kd.R_base ho0) hb)
        have n10_ := Aside0.mk (Kd.R_elder' HO189.out (Kd.R_base ho0) hb)
        have n11_ := Aside0.mk (Kd.R_elder' HO192.out (Kd.R_base ho0) hb)
        have n12_ := Aside0.mk (Kd.R_lower (Kd.R_new' (Kd.R_new' (Kd.R_new' (Kd.R_new' (Kd.R_new' (Kd.R_new' (Kd.R_new' (Kd.R_new' (Kd.R_new' (Kd.R_new' (Kd.R_new' (Kd.R_new' ho0 (Kd.R_lt HO_5.out)) (Kd.R_lt HO_6.out)) (Kd.R_lt HO_7.out)) (Kd.R_lt HO_8.out)) (Kd.R_lt HO_9.out)) (Kd.R_lt HO_10.out)) (Kd.R_lt HO177.out)) (Kd.R_lt HO180.out)) (Kd.R_lt HO183.out)) (Kd.R_lt HO186.out)) (Kd.R_lt HO189.out)) (Kd.R_lt HO192.out)) (below_size (by repeat (first | (with_reducible first | exact HB.out | apply below_alloc | apply pw_below_drewN | apply below_drew1) | exact HB.out))))
        have n13_ := Aside0.mk (below_step (by repeat (first | (with_reducible first | exact HB.out | apply below_alloc | apply pw_below_drewN | apply below_drew1) | exact HB.out)) hb)
        clear HO_5
        clear HO_6
        clear HO_7
        clear HO_8
        clear HO_9
        clear HO_10
        clear HO177
        clear HO180
        clear HO183
        clear HO186
        clear HO189
        clear HO192
        clear HB
        have HO_5 := n0_
        have HO_6 := n1_
        have HO_7 := n2_
        have HO_8 := n3_
        have HO_9 := n4_
        have HO_10 := n5_
        have HO177 := n6_
        have HO180 := n7_
        have HO183 := n8_
        have HO186 := n9_
        have HO189 := n10_
        have HO192 := n11_
        have HO195 := n12_
        have HB := n13_
        clear n0_ n1_ n2_ n3_ n4_ n5_ n6_ n7_ n8_ n9_ n10_ n11_ n12_ n13_
        (try clear hb)
        (try clear hb2)
        (try clear hk)
        (try clear hi)
        (try clear ho0)
        have hcv56 := own_string (P := Try.prog) Try.underlying23 Try.underlying5 Try.underlying9 (Kd.own_of_R HO177.out); have hcv56d := fun n_ => own_string (P := Try.prog) Try.underlying23 Try.underlying5 Try.underlying9 (Kd.own_of_R (Kd.R_drewN HO177.out n_))
        have hcv57 := own_string (P := Try.prog) Try.underlying23 Try.underlying5 Try.underlying9 (Kd.own_of_R HO_10.out); have hcv57d := fun n_ => own_string (P := Try.prog) Try.underlying23 Try.underlying5 Try.underlying9 (Kd.own_of_R (Kd.R_drewN HO_10.out n_))
        refine hK.out _ _ ⟨⟨⟨gW.kept4 HB.out HX.out, own_string (P := Try.prog) Try.underlying23 Try.underlying5 Try.underlying9 (Kd.own_of_R HO_6.out), own_string (P := Try.prog) Try.underlying23 Try.underlying5 Try.underlying9 (Kd.own_of_R HO_8.out), own_string (P := Try.prog) Try.underlying23 Try.underlying5 Try.underlying9 (Kd.own_of_R HO177.out), own_string (P := Try.prog) Try.underlying23 Try.underlying5 Try.underlying9 (Kd.own_of_R HO_10.out)⟩, own_string (P := Try.prog) Try.underlying23 Try.underlying5 Try.underlying9 (Kd.own_of_R HO186.out)⟩, own_string (P := Try.prog) Try.underlying23 Try.underlying5 Try.underlying9 (Kd.own_of_R HO192.out)⟩ (fun hHeld => ?_)
        clear hK K
        refine norm_ (a' := ?_) ?_ ?_
        rotate_left
        · show Act.put _ (some 86) _ = _
          simp only [Act.put, q1_, q2_, q3_, i64_w, i32_w]
          rfl
        refine one_ (i := 35) (N := some 87) #[i1,i1,i1,i1,i1,i1,i1,i1,i1,i1,i1,i1,i1,i1,i1,i1,i1,i1,i1,i1,i1,i1,i1,i1,i1,i1,i1,i1,i1,i1,i1,i1,i1,i1,i1,i1,i0,i0,i0,i0,i0,i0,i0,i0,i0] rfl rfl (one_of HT_.out (by kernel_rfl)) (by decide) (fun K hK => ?_)
        have hcv55 := own_string (P := Try.prog) Try.underlying23 Try.underlying5 Try.underlying9 (Kd.own_of_R HO195.out); have hcv55d := fun n_ => own_string (P := Try.prog) Try.underlying23 Try.underlying5 Try.underlying9 (Kd.own_of_R (Kd.R_drewN HO195.out n_))
        refine value_ (w1 := ?_) (v := ?_) (by rfl) rfl ?_ ?_
        rotate_left 2
        · go_simp
          constructor
          · rfl
          rfl
        clear hcv55
        refine hK.out _ _ ⟨⟨⟨gW.kept4 HB.out HX.out, own_string (P := Try.prog) Try.underlying23 Try.underlying5 Try.underlying9 (Kd.own_of_R HO_6.out), own_string (P := Try.prog) Try.underlying23 Try.underlying5 Try.underlying9 (Kd.own_of_R HO_8.out), own_string (P := Try.prog) Try.underlying23 Try.underlying5 Try.underlying9 (Kd.own_of_R HO177.out), own_string (P := Try.prog) Try.underlying23 Try.underlying5 Try.underlying9 (Kd.own_of_R HO_10.out)⟩, own_string (P := Try.prog) Try.underlying23 Try.underlying5 Try.underlying9 (Kd.own_of_R HO186.out)⟩, own_string (P := Try.prog) Try.underlying23 Try.underlying5 Try.underlying9 (Kd.own_of_R HO192.out)⟩ (fun hHeld => ?_)
        clear hK K
        refine norm_ (a' := ?_) ?_ ?_
        rotate_left
        · show Act.put _ (some 87) _ = _
          simp only [Act.put, q1_, q2_, q3_, i64_w, i32_w]
          rfl
        refine pure_ (i := 36) (N := some 88) (v := ?_) (a' := ?_) #[i1,i1,i1,i1,i1,i1,i1,i1,i1,i1,i1,i1,i1,i1,i1,i1,i1,i1,i1,i1,i1,i1,i1,i1,i1,i1,i1,i1,i1,i1,i1,i1,i1,i1,i1,i1,i1,i0,i0,i0,i0,i0,i0,i0,i0] rfl rfl (any_of HT_.out (by kernel_rfl)) (fun _ _ _ h => h) (Or.inl ⟨by rfl, ?_⟩) ?_ ?_
        rotate_left; · intro w'; go_simp; with_reducible rfl
        rotate_left; · simp only [Act.put, q1_, q2_, q3_, i64_w, i32_w]; rfl
        refine pure_ (i := 37) (N := some 89) (v := ?_) (a' := ?_) #[i1,i1,i1,i1,i1,i1,i1,i1,i1,i1,i1,i1,i1,i1,i1,i1,i1,i1,i1,i1,i1,i1,i1,i1,i1,i1,i1,i1,i1,i1,i1,i1,i1,i1,i1,i1,i1,i1,i0,i0,i0,i0,i0,i0,i0] rfl rfl (any_of HT_.out (by kernel_rfl)) (fun _ _ _ h => h) (Or.inl ⟨by rfl, ?_⟩) ?_ ?_
        rotate_left; · intro w'; go_simp; with_reducible rfl
        rotate_left; · simp only [Act.put, q1_, q2_, q3_, i64_w, i32_w]; rfl
        refine pure_ (i := 38) (N := some 90) (v := ?_) (a' := ?_) #[i1,i1,i1,i1,i1,i1,i1,i1,i1,i1,i1,i1,i1,i1,i1,i1,i1,i1,i1,i1,i1,i1,i1,i1,i1,i1,i1,i1,i1,i1,i1,i1,i1,i1,i1,i1,i1,i1,i1,i0,i0,i0,i0,i0,i0] rfl rfl (any_of HT_.out (by kernel_rfl)) (fun _ _ _ h => h) (Or.inl ⟨by rfl, ?_⟩) ?_ ?_
        rotate_left; · intro w'; go_simp; with_reducible rfl
        rotate_left; · simp only [Act.put, q1_, q2_, q3_, i64_w, i32_w]; rfl
        refine pure_ (i := 39) (N := some 91) (v := ?_) (a' := ?_) #[i1,i1,i1,i1,i1,i1,i1,i1,i1,i1,i1,i1,i1,i1,i1,i1,i1,i1,i1,i1,i1,i1,i1,i1,i1,i1,i1,i1,i1,i1,i1,i1,i1,i1,i1,i1,i1,i1,i1,i1,i0,i0,i0,i0,i0] rfl rfl (any_of HT_.out (by kernel_rfl)) (fun _ _ _ h => h) (Or.inl ⟨by rfl, ?_⟩) ?_ ?_
        rotate_left; · intro w'; go_simp; with_reducible rfl
        rotate_left; · simp only [Act.put, q1_, q2_, q3_, i64_w, i32_w]; rfl
        refine take_ (i := 40) (N := some 92) (v := ?_) (a' := ?_) #[i1,i1,i1,i1,i1,i1,i1,i1,i1,i1,i1,i1,i1,i1,i1,i1,i1,i1,i1,i1,i1,i1,i1,i1,i1,i1,i1,i1,i1,i1,i1,i1,i1,i1,i1,i1,i1,i1,i1,i1,i1,i0,i0,i0,i0] rfl rfl (take_ofW HT_.out HW_.out (by kernel_rfl)) (fun _ _ _ h => h) (Or.inl ⟨by rfl, ?_⟩) hHeld ?_ ?_
        rotate_left; · rintro w' ⟨⟨⟨⟨s0, s1, s2, s3⟩, s4, s5, s6, s7⟩, z20⟩, z31⟩; go_simp; with_reducible rfl
        rotate_left; · simp only [Act.put, q1_, q2_, q3_, i64_w, i32_w]; rfl
        refine pure_ (i := 41) (N := some 93) (v := ?_) (a' := ?_) #[i1,i1,i1,i1,i1,i1,i1,i1,i1,i1,i1,i1,i1,i1,i1,i1,i1,i1,i1,i1,i1,i1,i1,i1,i1,i1,i1,i1,i1,i1,i1,i1,i1,i1,i1,i1,i1,i1,i1,i1,i1,i1,i0,i0,i0] rfl rfl (any_of HT_.out (by kernel_rfl)) (fun _ _ _ h => h) (Or.inl ⟨by rfl, ?_⟩) ?_ ?_
        rotate_left; · intro w'; go_simp; with_reducible rfl
        rotate_left; · simp only [Act.put, q1_, q2_, q3_, i64_w, i32_w]; rfl
        refine take_ (i := 42) (N := some 94) (v := ?_) (a' := ?_) #[i1,i1,i1,i1,i1,i1,i1,i1,i1,i1,i1,i1,i1,i1,i1,i1,i1,i1,i1,i1,i1,i1,i1,i1,i1,i1,i1,i1,i1,i1,i1,i1,i1,i1,i1,i1,i1,i1,i1,i1,i1,i1,i1,i0,i0] rfl rfl (take_ofW HT_.out HW_.out (by kernel_rfl)) (fun _ _ _ h => h) (Or.inl ⟨by rfl, ?_⟩) hHeld ?_ ?_
        rotate_left; · rintro w' ⟨⟨⟨⟨s0, s1, s2, s3⟩, s4, s5, s6, s7⟩, z20⟩, z31⟩; go_simp; with_reducible rfl
        rotate_left; · simp only [Act.put, q1_, q2_, q3_, i64_w, i32_w]; rfl
        refine pure_ (i := 43) (N := some 95) (v := ?_) (a' := ?_) #[i1,i1,i1,i1,i1,i1,i1,i1,i1,i1,i1,i1,i1,i1,i1,i1,i1,i1,i1,i1,i1,i1,i1,i1,i1,i1,i1,i1,i1,i1,i1,i1,i1,i1,i1,i1,i1,i1,i1,i1,i1,i1,i1,i1,i0] rfl rfl (any_of HT_.out (by kernel_rfl)) (fun _ _ _ h => h) (Or.inl ⟨by rfl, ?_⟩) ?_ ?_
        rotate_left; · intro w'; go_simp; with_reducible rfl
        rotate_left; · simp only [Act.put, q1_, q2_, q3_, i64_w, i32_w]; rfl
        refine pure_ (i := 44) (N := some 96) (v := ?_) (a' := ?_) #[i1,i1,i1,i1,i1,i1,i1,i1,i1,i1,i1,i1,i1,i1,i1,i1,i1,i1,i1,i1,i1,i1,i1,i1,i1,i1,i1,i1,i1,i1,i1,i1,i1,i1,i1,i1,i1,i1,i1,i1,i1,i1,i1,i1,i1] rfl rfl (any_of HT_.out (by kernel_rfl)) (fun _ _ _ h => h) (Or.inl ⟨by rfl, ?_⟩) ?_ ?_
        rotate_left; · intro w'; go_simp; with_reducible rfl
        rotate_left; · simp only [Act.put, q1_, q2_, q3_, i64_w, i32_w]; rfl
        refine done_ (done_of HT_.out (by kernel_rfl)) ?_
        try go_wp2
        go_meet
        case rel => exact ⟨_, (((strOfNums t175).toList != (strOfNums x10_1).toList)), (by first | rfl | (simp; done) | (simp [*]; done)), H', ⟨by have := HK1.out; first | omega | exact Nat.le_refl _⟩, ⟨by (with_reducible repeat (first | apply Kd.R_alloc | apply Kd.R_drewN | apply Kd.R_drew)); exact Kd.R_mono HO_5.out (gW.ok1)⟩, ⟨by (with_reducible repeat (first | apply Kd.R_alloc | apply Kd.R_drewN | apply Kd.R_drew)); exact Kd.R_mono HO_6.out (gW.ok1)⟩, ⟨by (with_reducible repeat (first | apply Kd.R_alloc | apply Kd.R_drewN | apply Kd.R_drew)); exact Kd.R_mono HO_7.out (gW.ok1)⟩, ⟨by (with_reducible repeat (first | apply Kd.R_alloc | apply Kd.R_drewN | apply Kd.R_drew)); exact Kd.R_mono HO_8.out (gW.ok1)⟩, ⟨by (with_reducible repeat (first | apply Kd.R_alloc | apply Kd.R_drewN | apply Kd.R_drew)); exact Kd.R_mono HO_9.out (gW.ok1)⟩, ⟨by (with_reducible repeat (first | apply Kd.R_alloc | apply Kd.R_drewN | apply Kd.R_drew)); exact Kd.R_mono HO_10.out (gW.ok1)⟩, ⟨by (with_reducible repeat (first | apply Kd.R_alloc | apply Kd.R_drewN | apply Kd.R_drew)); exact Kd.R_mono HO177.out (gW.ok2)⟩, ⟨by repeat (first | (with_reducible first | exact HB.out | apply below_alloc | apply pw_below_drewN | apply below_drew1) | exact HB.out)⟩⟩
      case rest => as_aux_lemma =>
      clear HC29
      try clear c1
      try clear p2
      try clear c3
      try clear hcv9
      try clear c11
      try clear c12
      try clear c32
      try clear c32b0
      try clear c32b1
      try clear hcv93
      try clear hcv96
      try clear hcv98
      obtain ⟨kq, x96_28, rfl, HA, HJ28, HO_5, HO_6, HO_7, HO_8, HO_9, HO_10, HO_12, HB⟩ := hcut
      cases kq with
      | zero => exact absurd HA.out (by simp [gW.j1])
      | succ kj28 =>
        have H := HA.out
        clear HA
        simp only [gW.j1] at H
        by_cases c100 : x96_28 = true
        · subst c100
          have H1 : (none) = some r := by rw [if_pos rfl] at H; exact H
          clear H
          have H := H1
          clear H1
          exact absurd H (by simp)
        replace c100 := Bool.eq_false_iff.mpr c100
        subst c100
        have H1 : ((garnerlaw01_spoil.f kj28 t159).bind fun _ => ((garnerlaw01_spoil.f kj28 t165).bind fun _ => ((garnerlaw01_spoil.f kj28 t175).bind fun _ => (gW.l1 kj28 a0 l3 l4 y152 t162 t168 x10_1 0 0)))) = some r := by rw [if_neg (show ¬ (false = true) by decide)] at H; exact H
        clear H
        have H := H1
        clear H1
        replace H := Option.bind_eq_some_iff.mp H
        obtain ⟨_, A1010, H⟩ := H
        replace H : ((garnerlaw01_spoil.f kj28 t165).bind fun _ => ((garnerlaw01_spoil.f kj28 t175).bind fun _ => (gW.l1 kj28 a0 l3 l4 y152 t162 t168 x10_1 0 0))) = some r := H
        have A101 := Aside0.mk A1010
        clear A1010
        replace H := Option.bind_eq_some_iff.mp H
        obtain ⟨_, A1020, H⟩ := H
        replace H : ((garnerlaw01_spoil.f kj28 t175).bind fun _ => (gW.l1 kj28 a0 l3 l4 y152 t162 t168 x10_1 0 0)) = some r := H
        have A102 := Aside0.mk A1020
        clear A1020
        replace H := Option.bind_eq_some_iff.mp H
        obtain ⟨_, A1030, H⟩ := H
        replace H : (gW.l1 kj28 a0 l3 l4 y152 t162 t168 x10_1 0 0) = some r := H
        have A103 := Aside0.mk A1030
        clear A1030
        have H' := Aside0.mk H
        clear H
        obtain ⟨Ao104, co104, eo104⟩ := Kd.R_slice HO_6.out
        subst eo104
        go_wp2_with (first | ((with_reducible refine gate_callee (f := 17) rfl ?_); refine goesL_ (some 98) rfl rfl Try.func17 (by kernel_rfl) rfl #[.slice Ao104 t159.length co104] rfl (by (try simp only [List.map_toArray, List.map_cons, List.map_nil]); first | done | rfl | (simp only [List.length_drop, List.length_take]; rfl)) ?_; (with_reducible refine (garnerlaw01_spoil.calls kj28 (fun k_ => some k_ = (.slice Ao104 t159.length co104 : Value).ownBlock) (.slice Ao104 t159.length co104) t159  w _ ?side1 ?side2 A101.out).mono ?_); (case side1 => repeat (first | (with_reducible first | exact HB.out | apply below_alloc | apply pw_below_drewN | apply below_drew1) | exact HB.out)); (case side2 => exact Kd.R_tight rfl HO_6.out); rintro e w105 ⟨rfl, hb, hkp⟩; refine ⟨_, rfl, ?_⟩; have n0_ := Aside0.mk (Kd.R_mono (ok' := fun k_ => some k_ ≠ (v163 : Value).ownBlock ∧ some k_ ≠ (v166 : Value).ownBlock ∧ some k_ ≠ (v169 : Value).ownBlock ∧ some k_ ≠ (u10 : Value).ownBlock ∧ some k_ ≠ (v176 : Value).ownBlock) (Kd.R_keptB (HO_5.out) hkp (fun k_ hk_ hs_ => (hk_.1) hs_)) (fun k_ hk_ => ⟨hk_.1.2.1, hk_.1.2.2.1, hk_.1.2.2.2.1, hk_.1.2.2.2.2.1, hk_.1.2.2.2.2.2⟩)); have n1_ := Aside0.mk (Kd.R_mono (ok' := fun k_ => some k_ ≠ (.slice Ao18 y152.length co18 : Value).ownBlock ∧ some k_ ≠ (v166 : Value).ownBlock ∧ some k_ ≠ (v169 : Value).ownBlock ∧ some k_ ≠ (u10 : Value).ownBlock ∧ some k_ ≠ (v176 : Value).ownBlock) (Kd.R_keptB (HO_7.out) hkp (fun k_ hk_ hs_ => (hk_.2.1) hs_)) (fun k_ hk_ => ⟨hk_.1.1, hk_.1.2.2.1, hk_.1.2.2.2.1, hk_.1.2.2.2.2.1, hk_.1.2.2.2.2.2⟩)); have n2_ := Aside0.mk (Kd.R_mono (ok' := fun k_ => some k_ ≠ (.slice Ao18 y152.length co18 : Value).ownBlock ∧ some k_ ≠ (v163 : Value).ownBlock ∧ some k_ ≠ (v169 : Value).ownBlock ∧ some k_ ≠ (u10 : Value).ownBlock ∧ some k_ ≠ (v176 : Value).ownBlock) (Kd.R_keptB (HO_8.out) hkp (fun k_ hk_ hs_ => (hk_.2.1) hs_)) (fun k_ hk_ => ⟨hk_.1.1, hk_.1.2.2.1, hk_.1.2.2.2.1, hk_.1.2.2.2.2.1, hk_.1.2.2.2.2.2⟩)); have n3_ := Aside0.mk (Kd.R_mono (ok' := fun k_ => some k_ ≠ (.slice Ao18 y152.length co18 : Value).ownBlock ∧ some k_ ≠ (v163 : Value).ownBlock ∧ some k_ ≠ (v166 : Value).ownBlock ∧ some k_ ≠ (u10 : Value).ownBlock ∧ some k_ ≠ (v176 : Value).ownBlock) (Kd.R_keptB (HO_9.out) hkp (fun k_ hk_ hs_ => (hk_.2.1) hs_)) (fun k_ hk_ => ⟨hk_.1.1, hk_.1.2.2.1, hk_.1.2.2.2.1, hk_.1.2.2.2.2.1, hk_.1.2.2.2.2.2⟩)); have n4_ := Aside0.mk (Kd.R_mono (ok' := fun k_ => some k_ ≠ (.slice Ao18 y152.length co18 : Value).ownBlock ∧ some k_ ≠ (v163 : Value).ownBlock ∧ some k_ ≠ (v166 : Value).ownBlock ∧ some k_ ≠ (v169 : Value).ownBlock ∧ some k_ ≠ (v176 : Value).ownBlock) (Kd.R_keptB (HO_10.out) hkp (fun k_ hk_ hs_ => (hk_.2.1) hs_)) (fun k_ hk_ => ⟨hk_.1.1, hk_.1.2.2.1, hk_.1.2.2.2.1, hk_.1.2.2.2.2.1, hk_.1.2.2.2.2.2⟩)); have n5_ := Aside0.mk (Kd.R_mono (ok' := fun k_ => some k_ ≠ (.slice Ao18 y152.length co18 : Value).ownBlock ∧ some k_ ≠ (v163 : Value).ownBlock ∧ some k_ ≠ (v166 : Value).ownBlock ∧ some k_ ≠ (v169 : Value).ownBlock ∧ some k_ ≠ (u10 : Value).ownBlock) (Kd.R_keptB (HO_12.out) hkp (fun k_ hk_ hs_ => (hk_.2.1) hs_)) (fun k_ hk_ => ⟨hk_.1.1, hk_.1.2.2.1, hk_.1.2.2.2.1, hk_.1.2.2.2.2.1, hk_.1.2.2.2.2.2⟩)); have n6_ := Aside0.mk (hb); clear HO_5; clear HO_7; clear HO_8; clear HO_9; clear HO_10; clear HO_12; clear HB; clear HO_6; have HO_5 := n0_; have HO_7 := n1_; have HO_8 := n2_; have HO_9 := n3_; have HO_10 := n4_; have HO_12 := n5_; have HB := n6_; clear n0_ n1_ n2_ n3_ n4_ n5_ n6_; (try clear hb); (try clear hkp); obtain ⟨Ao106, co106, eo106⟩ := Kd.R_slice HO_8.out; subst eo106) | ((with_reducible refine gate_callee (f := 17) rfl ?_); refine goesL_ (some 100) rfl rfl Try.func17 (by kernel_rfl) rfl #[.slice Ao106 t165.length co106] rfl (by (try simp only [List.map_toArray, List.map_cons, List.map_nil]); first | done | rfl | (simp only [List.length_drop, List.length_take]; rfl)) ?_; (with_reducible refine (garnerlaw01_spoil.calls kj28 (fun k_ => some k_ = (.slice Ao106 t165.length co106 : Value).ownBlock) (.slice Ao106 t165.length co106) t165  w _ ?side1 ?side2 A102.out).mono ?_); (case side1 => repeat (first | (with_reducible first | exact HB.out | apply below_alloc | apply pw_below_drewN | apply below_drew1) | exact HB.out)); (case side2 => exact Kd.R_tight rfl HO_8.out); rintro e w107 ⟨rfl, hb, hkp⟩; refine ⟨_, rfl, ?_⟩; have n0_ := Aside0.mk (Kd.R_mono (ok' := fun k_ => some k_ ≠ (v163 : Value).ownBlock ∧ some k_ ≠ (v169 : Value).ownBlock ∧ some k_ ≠ (u10 : Value).ownBlock ∧ some k_ ≠ (v176 : Value).ownBlock) (Kd.R_keptB (HO_5.out) hkp (fun k_ hk_ hs_ => (hk_.2.1) hs_)) (fun k_ hk_ => ⟨hk_.1.1, hk_.1.2.2.1, hk_.1.2.2.2.1, hk_.1.2.2.2.2⟩)); have n1_ := Aside0.mk (Kd.R_mono (ok' := fun k_ => some k_ ≠ (.slice Ao18 y152.length co18 : Value).ownBlock ∧ some k_ ≠ (v169 : Value).ownBlock ∧ some k_ ≠ (u10 : Value).ownBlock ∧ some k_ ≠ (v176 : Value).ownBlock) (Kd.R_keptB (HO_7.out) hkp (fun k_ hk_ hs_ => (hk_.2.1) hs_)) (fun k_ hk_ => ⟨hk_.1.1, hk_.1.2.2.1, hk_.1.2.2.2.1, hk_.1.2.2.2.2⟩)); have n2_ := Aside0.mk (Kd.R_mono (ok' := fun k_ => some k_ ≠ (.slice Ao18 y152.length co18 : Value).ownBlock ∧ some k_ ≠ (v163 : Value).ownBlock ∧ some k_ ≠ (u10 : Value).ownBlock ∧ some k_ ≠ (v176 : Value).ownBlock) (Kd.R_keptB (HO_9.out) hkp (fun k_ hk_ hs_ => (hk_.2.2.1) hs_)) (fun k_ hk_ => ⟨hk_.1.1, hk_.1.2.1, hk_.1.2.2.2.1, hk_.1.2.2.2.2⟩)); have n3_ := Aside0.mk (Kd.R_mono (ok' := fun k_ => some k_ ≠ (.slice Ao18 y152.length co18 : Value).ownBlock ∧ some k_ ≠ (v163 : Value).ownBlock ∧ some k_ ≠ (v169 : Value).ownBlock ∧ some k_ ≠ (v176 : Value).ownBlock) (Kd.R_keptB (HO_10.out) hkp (fun k_ hk_ hs_ => (hk_.2.2.1) hs_)) (fun k_ hk_ => ⟨hk_.1.1, hk_.1.2.1, hk_.1.2.2.2.1, hk_.1.2.2.2.2⟩)); have n4_ := Aside0.mk (Kd.R_mono (ok' := fun k_ => some k_ ≠ (.slice Ao18 y152.length co18 : Value).ownBlock ∧ some k_ ≠ (v163 : Value).ownBlock ∧ some k_ ≠ (v169 : Value).ownBlock ∧ some k_ ≠ (u10 : Value).ownBlock) (Kd.R_keptB (HO_12.out) hkp (fun k_ hk_ hs_ => (hk_.2.2.1) hs_)) (fun k_ hk_ => ⟨hk_.1.1, hk_.1.2.1, hk_.1.2.2.2.1, hk_.1.2.2.2.2⟩)); have n5_ := Aside0.mk (hb); clear HO_5; clear HO_7; clear HO_9; clear HO_10; clear HO_12; clear HB; clear HO_8; have HO_5 := n0_; have HO_7 := n1_; have HO_9 := n2_; have HO_10 := n3_; have HO_12 := n4_; have HB := n5_; clear n0_ n1_ n2_ n3_ n4_ n5_; (try clear hb); (try clear hkp); obtain ⟨Ao108, co108, eo108⟩ := Kd.R_slice HO_12.out; subst eo108) | ((with_reducible refine gate_callee (f := 17) rfl ?_); refine goesL_ (some 102) rfl rfl Try.func17 (by kernel_rfl) rfl #[.slice Ao108 t175.length co108] rfl (by (try simp only [List.map_toArray, List.map_cons, List.map_nil]); first | done | rfl | (simp only [List.length_drop, List.length_take]; rfl)) ?_; (with_reducible refine (garnerlaw01_spoil.calls kj28 (fun k_ => some k_ = (.slice Ao108 t175.length co108 : Value).ownBlock) (.slice Ao108 t175.length co108) t175  w _ ?side1 ?side2 A103.out).mono ?_); (case side1 => repeat (first | (with_reducible first | exact HB.out | apply below_alloc | apply pw_below_drewN | apply below_drew1) | exact HB.out)); (case side2 => exact Kd.R_tight rfl HO_12.out); rintro e w109 ⟨rfl, hb, hkp⟩; refine ⟨_, rfl, ?_⟩; have n0_ := Aside0.mk (Kd.R_mono (ok' := fun k_ => some k_ ≠ (v163 : Value).ownBlock ∧ some k_ ≠ (v169 : Value).ownBlock ∧ some k_ ≠ (u10 : Value).ownBlock) (Kd.R_keptB (HO_5.out) hkp (fun k_ hk_ hs_ => (hk_.2.2.2) hs_)) (fun k_ hk_ => ⟨hk_.1.1, hk_.1.2.1, hk_.1.2.2.1⟩)); have n1_ := Aside0.mk (Kd.R_mono (ok' := fun k_ => some k_ ≠ (.slice Ao18 y152.length co18 : Value).ownBlock ∧ some k_ ≠ (v169 : Value).ownBlock ∧ some k_ ≠ (u10 : Value).ownBlock) (Kd.R_keptB (HO_7.out) hkp (fun k_ hk_ hs_ => (hk_.2.2.2) hs_)) (fun k_ hk_ => ⟨hk_.1.1, hk_.1.2.1, hk_.1.2.2.1⟩)); have n2_ := Aside0.mk (Kd.R_mono (ok' := fun k_ => some k_ ≠ (.slice Ao18 y152.length co18 : Value).ownBlock ∧ some k_ ≠ (v163 : Value).ownBlock ∧ some k_ ≠ (u10 : Value).ownBlock) (Kd.R_keptB (HO_9.out) hkp (fun k_ hk_ hs_ => (hk_.2.2.2) hs_)) (fun k_ hk_ => ⟨hk_.1.1, hk_.1.2.1, hk_.1.2.2.1⟩)); have n3_ := Aside0.mk (Kd.R_mono (ok' := fun k_ => some k_ ≠ (.slice Ao18 y152.length co18 : Value).ownBlock ∧ some k_ ≠ (v163 : Value).ownBlock ∧ some k_ ≠ (v169 : Value).ownBlock) (Kd.R_keptB (HO_10.out) hkp (fun k_ hk_ hs_ => (hk_.2.2.2) hs_)) (fun k_ hk_ => ⟨hk_.1.1, hk_.1.2.1, hk_.1.2.2.1⟩)); have n4_ := Aside0.mk (hb); clear HO_5; clear HO_7; clear HO_9; clear HO_10; clear HB; clear HO_12; have HO_5 := n0_; have HO_7 := n1_; have HO_9 := n2_; have HO_10 := n3_; have HB := n4_; clear n0_ n1_ n2_ n3_ n4_; (try clear hb); (try clear hkp)))
        go_loopg [13, 14] kj28 (fun kq v13 v14 w' => ∃ (x13_3 : Int) (x14_3 : Int), v13 = .int .i64 x13_3 ∧ v14 = .int .i64 x14_3 ∧ Aside0 (gW.l1 kq a0 l3 l4 y152 t162 t168 x10_1 x13_3 x14_3 = some r) ∧ Aside0 (kq ≤ kj28) ∧ Aside0 (Kd.R (Kd.int .u8) 5 w' w.heap.size (fun k_ => some k_ ≠ (v163 : Value).ownBlock ∧ some k_ ≠ (v169 : Value).ownBlock ∧ some k_ ≠ (u10 : Value).ownBlock) (.slice Ao18 y152.length co18) y152) ∧ Aside0 (Kd.R (Kd.int .u8) 5 w' w.heap.size (fun k_ => some k_ ≠ ((.slice Ao18 y152.length co18) : Value).ownBlock ∧ some k_ ≠ (v169 : Value).ownBlock ∧ some k_ ≠ (u10 : Value).ownBlock) v163 t162) ∧ Aside0 (Kd.R (Kd.int .u8) 5 w' w.heap.size (fun k_ => some k_ ≠ ((.slice Ao18 y152.length co18) : Value).ownBlock ∧ some k_ ≠ (v163 : Value).ownBlock ∧ some k_ ≠ (u10 : Value).ownBlock) v169 t168) ∧ Aside0 (Kd.R (Kd.int .u8) 5 w' w.heap.size (fun k_ => some k_ ≠ ((.slice Ao18 y152.length co18) : Value).ownBlock ∧ some k_ ≠ (v163 : Value).ownBlock ∧ some k_ ≠ (v169 : Value).ownBlock) u10 x10_1) ∧ Aside0 (Below w.heap.size w w'))
        case atStart => exact ⟨(0), (0), (by first | rfl | (simp; done) | (simp [*]; done)), (by first | rfl | (simp; done) | (simp [*]; done)), H', ⟨Nat.le_refl _⟩, ⟨by (with_reducible repeat (first | apply Kd.R_alloc | apply Kd.R_drewN | apply Kd.R_drew)); exact HO_5.out⟩, ⟨by (with_reducible repeat (first | apply Kd.R_alloc | apply Kd.R_drewN | apply Kd.R_drew)); exact HO_7.out⟩, ⟨by (with_reducible repeat (first | apply Kd.R_alloc | apply Kd.R_drewN | apply Kd.R_drew)); exact HO_9.out⟩, ⟨by (with_reducible repeat (first | apply Kd.R_alloc | apply Kd.R_drewN | apply Kd.R_drew)); exact HO_10.out⟩, ⟨by repeat (first | (with_reducible first | exact HB.out | apply below_alloc | apply pw_below_drewN | apply below_drew1) | exact HB.out)⟩⟩
        case round => as_aux_lemma =>
          clear H'
          try clear c1
          try clear p2
          try clear c3
          try clear hcv9
          try clear c10
          try clear c11
          try clear c12
          try clear c17
          try clear c32
          try clear c32b0
          try clear c32b1
          try clear hcv93
          try clear hcv96
          try clear hcv98
          try clear c100
          try clear p2
          obtain ⟨x13_3, x14_3, rfl, rfl, HA, HK3, HO_5, HO_7, HO_9, HO_10, HB⟩ := hrel
          cases gk with
          | zero => exact absurd HA.out (by simp [gW.l1])
          | succ k3 =>
            have H := HA.out
            clear HA
            simp only [gW.l1] at H
            by_cases c110 : x13_3 < (l4.length : Int)
            · rw [if_pos c110] at H
              have c110b0 : decide (x13_3 < (l4.length : Int)) = true := decide_eq_true c110
              clear c110
              have c111 : 0 ≤ x13_3 := Classical.byContradiction fun h_ => by rw [if_neg h_] at H; exact absurd H (by simp)
              rw [if_pos c111] at H
              have c111b0 : decide (0 ≤ x13_3) = true := decide_eq_true c111
              clear c111
              have c112 : 0 ≤ x14_3 := Classical.byContradiction fun h_ => by rw [if_neg h_] at H; exact absurd H (by simp)
              rw [if_pos c112] at H
              have c112b0 := eq_true c112
              have c112b1 : decide (0 ≤ x14_3) = true := decide_eq_true c112
              clear c112
              have c113 : x14_3 ≤ (wrap64 (x14_3 + ((rd_L1 l4 x13_3).length : Int))) := Classical.byContradiction fun h_ => by rw [if_neg h_] at H; exact absurd H (by simp)
              rw [if_pos c113] at H
              have c113b0 := eq_true c113
              have c113b1 : decide (x14_3 ≤ (wrap64 (x14_3 + ((rd_L1 l4 x13_3).length : Int)))) = true := decide_eq_true c113
              have c114 : (wrap64 (x14_3 + ((rd_L1 l4 x13_3).length : Int))) ≤ (x10_1.length : Int) := Classical.byContradiction fun h_ => by rw [if_neg h_] at H; exact absurd H (by simp)
              rw [if_pos c114] at H
              have c114b0 := eq_true c114
              have c114b1 : decide ((wrap64 (x14_3 + ((rd_L1 l4 x13_3).length : Int))) ≤ (x10_1.length : Int)) = true := decide_eq_true c114
              obtain ⟨y198, hy198⟩ : ∃ y_ : List Int, y_ = ((x10_1.take ((wrap64 (x14_3 + ((rd_L1 l4 x13_3).length : Int))) : Int).toNat).drop (x14_3 : Int).toNat) := ⟨_, rfl⟩
              replace H : (if (strOfNums (rd_L1 l4 x13_3)).toList = (strOfNums y198).toList then (gW.l1 k3 a0 l3 l4 y152 t162 t168 x10_1 (wrap64 (x13_3 + 1)) (wrap64 (x14_3 + ((rd_L1 l4 x13_3).length : Int)))) else (none)) = some r := by first | (rw [hy198]; with_reducible exact H) | (have H2_ := (Option.bind_some _ _).symm.trans H; rw [hy198]; with_reducible exact H2_) | (have H2_ := (Option.bind_some _ _).symm.trans H; with_reducible exact H2_) | with_reducible exact H | (rw [hy198]; exact H) | exact H
              have Ny198 := Aside0.mk hy198
              clear hy198
              have c115 : (strOfNums (rd_L1 l4 x13_3)).toList = (strOfNums y198).toList := Classical.byContradiction fun h_ => by rw [if_neg h_] at H; exact absurd H (by simp)
              rw [if_pos c115] at H
              have c115b0 : ((strOfNums (rd_L1 l4 x13_3)).toList == (strOfNums y198).toList) = true := beq_iff_eq.mpr c115
              have c115b1 : ((strOfNums (rd_L1 l4 x13_3)).toList != (strOfNums y198).toList) = false := bne_eq_false_iff_eq.mpr c115
              clear c115
              have H' := Aside0.mk H
              clear H
              try go_wp2
              have n0_ := Aside0.mk (Kd.R_drew HO_5.out)
              have n1_ := Aside0.mk (Kd.R_drew HO_7.out)
              have n2_ := Aside0.mk (Kd.R_drew HO_9.out)
              have n3_ := Aside0.mk (Kd.R_drew HO_10.out)
              have n4_ := Aside0.mk (below_drew1 HB.out)
              clear HO_5
              clear HO_7
              clear HO_9
              clear HO_10
              clear HB
              have HO_5 := n0_
              have HO_7 := n1_
              have HO_9 := n2_
              have HO_10 := n3_
              have HB := n4_
              clear n0_ n1_ n2_ n3_ n4_
              have p196 : 0 ≤ (x13_3 : Int) := of_decide_eq_true (by first | (with_reducible assumption) | assumption)
              have q196 : x13_3 < (l4.length : Int) := of_decide_eq_true (by first | (with_reducible assumption) | assumption)
              obtain ⟨ad196, A196_0, c196_0, e196, hx196_0, hl196_0, hi196_0⟩ := at_L1 HR4.out x13_3 p196 q196
              have hw196_0 := hx196_0
              cases e196
              replace hx196_0 := (HB.out.cell (World.block_lt_of_cell? w _ hx196_0)).trans hx196_0
              have HR196_0 := Aside0.mk hi196_0
              have HC196_0 := Aside0.mk hl196_0
              clear hi196_0 hl196_0
              replace p196 := eq_true p196
              replace q196 := eq_true q196
              (try (have q196d := q196; simp only [List.length_drop, List.length_take] at q196d))
              have p197 : 0 ≤ (x13_3 : Int) := of_decide_eq_true (by first | (with_reducible assumption) | assumption)
              have q197 : x13_3 < (l4.length : Int) := of_decide_eq_true (by first | (with_reducible assumption) | assumption)
              obtain ⟨ad197, A197_0, c197_0, e197, hx197_0, hl197_0, hi197_0⟩ := at_L1 HR4.out x13_3 p197 q197
              have hw197_0 := hx197_0
              obtain rfl : ad196 = ad197 := (by injection e197)
              replace hx197_0 := (HB.out.cell (World.block_lt_of_cell? w _ hx197_0)).trans hx197_0
              have HR197_0 := Aside0.mk hi197_0
              have HC197_0 := Aside0.mk hl197_0
              clear hi197_0 hl197_0
              replace p197 := eq_true p197
              replace q197 := eq_true q197
              (try (have q197d := q197; simp only [List.length_drop, List.length_take] at q197d))
              have ea_ := Option.some.inj (hx196_0.symm.trans hx197_0)
              injection ea_ with ea_ en_ ec_
              subst ea_
              subst ec_
              clear en_
              (try (have hce196 := Kd.C_string (P := Try.prog) (A := A196_0) (c := c196_0) Try.underlying23 Try.underlying5 Try.underlying9 (Kd.C_below HR196_0.out HB.out); have hce196d := fun n_ => Kd.C_string (P := Try.prog) (A := A196_0) (c := c196_0) Try.underlying23 Try.underlying5 Try.underlying9 (Kd.C_drewN (Kd.C_below HR196_0.out HB.out) n_)))
              (try (have hce197 := Kd.C_string (P := Try.prog) (A := A197_0) (c := c197_0) Try.underlying23 Try.underlying5 Try.underlying9 (Kd.C_below HR197_0.out HB.out); have hce197d := fun n_ => Kd.C_string (P := Try.prog) (A := A197_0) (c := c197_0) Try.underlying23 Try.underlying5 Try.underlying9 (Kd.C_drewN (Kd.C_below HR197_0.out HB.out) n_)))
              obtain ⟨Ao118, co118, eo118⟩ := Kd.R_slice HO_10.out
              (first | subst eo118 | (injection eo118 with f1_ f2_ f3_; have f4_ := f1_.symm; have f5_ := f3_.symm; clear f1_ f2_ f3_; subst f4_; subst f5_))
              have q117 : ((wrap64 (x14_3 + ((rd_L1 l4 x13_3).length : Int))) : Int) ≤ ((x10_1.length : Int) : Int) := of_decide_eq_true (by first | (with_reducible assumption) | assumption)
              obtain ⟨i0117, hi0117, _, hsz117, _⟩ := info_parts info5
              have hroom117 : x10_1.length ≤ co118 := (Kd.R_reads' HO_10.out).2.1
              have hC117 : Kd.C (Kd.int .u8) _ Ao118 x10_1.length x10_1 := (Kd.R_reads' HO_10.out).2.2
              have ql117 : (x14_3 : Int) ≤ ((wrap64 (x14_3 + ((rd_L1 l4 x13_3).length : Int))) : Int) := of_decide_eq_true (by first | (with_reducible assumption) | assumption)
              have q0117 : (0 : Int) ≤ (x14_3 : Int) := of_decide_eq_true (by first | (with_reducible assumption) | assumption)
              have hcut117 := cut_mid (P := Try.prog) 23 5 .i64 .i64 Try.underlying23 hi0117 1 hsz117 Ao118 x10_1.length co118 x14_3 (wrap64 (x14_3 + ((rd_L1 l4 x13_3).length : Int))) q0117 ql117 q117 hroom117
              have hr117 := Kd.C_mid (lo := (x14_3 : Int).toNat) (hi := ((wrap64 (x14_3 + ((rd_L1 l4 x13_3).length : Int))) : Int).toNat) (c := co118) hC117 (by omega) (by omega) hroom117
              obtain ⟨A117, hA117⟩ : ∃ A1, A1 = (if co118 = (x14_3 : Int).toNat then Ao118 else (Ao118 : Option Addr).map (·.add ((x14_3 : Int).toNat * 1))) := ⟨_, rfl⟩
              obtain ⟨c117, hc117⟩ : ∃ c1, c1 = co118 - (x14_3 : Int).toNat := ⟨_, rfl⟩
              have hy117 : y198.length = ((wrap64 (x14_3 + ((rd_L1 l4 x13_3).length : Int))) : Int).toNat - (x14_3 : Int).toNat := (by rw [Ny198.out, List.length_drop, List.length_take] <;> omega)
              rw [show ((x10_1).take ((wrap64 (x14_3 + ((rd_L1 l4 x13_3).length : Int))) : Int).toNat).drop (x14_3 : Int).toNat = y198 from Ny198.out.symm] at hr117
              replace hr117 : Kd.C (Kd.int .u8) _ A117 y198.length y198 := (by rw [hA117]; exact hr117)
              rw [← hy117, ← hA117, ← hc117] at hcut117
              have HR201 := Aside0.mk hr117
              have HC201 := Aside0.mk (show y198.length ≤ c117 from by rw [hy117, hc117]; exact Nat.sub_le_sub_right (Nat.le_trans (by omega) hroom117) _)
              clear hr117 hC117 hroom117 hi0117 hsz117 hc117
              have KY117 := Aside0.mk hy117
              have KA117 := Aside0.mk hA117
              clear hy117 hA117
              have KL117 := Aside0.mk (show ((wrap64 (x14_3 + ((rd_L1 l4 x13_3).length : Int))) : Int).toNat ≤ x10_1.length from by omega)
              have KM117 := Aside0.mk (show (x14_3 : Int).toNat ≤ ((wrap64 (x14_3 + ((rd_L1 l4 x13_3).length : Int))) : Int).toNat from by omega)
              replace q117 := eq_true q117
              (try (have q117d := q117; simp only [List.length_drop, List.length_take] at q117d))
              have hcv119 := Kd.C_string (P := Try.prog) (A := A196_0) (c := c196_0) Try.underlying23 Try.underlying5 Try.underlying9 (Kd.C_below HR196_0.out HB.out)
              have hcv120 := Kd.C_string (P := Try.prog) (A := A117) (c := c117) Try.underlying23 Try.underlying5 Try.underlying9 (by repeat (first | (with_reducible exact HR201.out) | (with_reducible refine Kd.C_alloc ?_ _) | (with_reducible refine Kd.C_drewN ?_ _) | (with_reducible refine Kd.C_drew ?_) | exact HR201.out)); (try (have hcv119d := fun n_ => Kd.C_string (P := Try.prog) (A := A196_0) (c := c196_0) Try.underlying23 Try.underlying5 Try.underlying9 (Kd.C_drewN (Kd.C_below HR196_0.out HB.out) n_))); (try (have hcv120d := fun n_ => Kd.C_string (P := Try.prog) (A := A117) (c := c117) Try.underlying23 Try.underlying5 Try.underlying9 (Kd.C_drewN HR201.out n_)))
              refine start_ (n := 17) (S := fun w' => w'.cell? (ad196.add (x13_3).toNat) = some (.slice A196_0 (rd_L1 l4 x13_3).length c196_0) ∧ w'.cell? (ad196.add (x13_3).toNat) = some (.slice A196_0 (rd_L1 l4 x13_3).length c196_0) ∧ (Sem.run Try.prog (Go.convert 23 9 (.slice A196_0 (rd_L1 l4 x13_3).length c196_0)) w' = .ok (.string (strOfNums (rd_L1 l4 x13_3))) w') ∧ (Sem.run Try.prog (Go.convert 23 9 (.slice A117 y198.length c117)) w' = .ok (.string (strOfNums y198)) w')) (ds := []) #[i0,i0,i0,i0,i0,i0,i0,i0,i0,i0,i0,i0,i0,i0,i0,i0,i0] (by kernel_rfl) rfl rfl ⟨((HB.out.cell (World.block_lt_of_cell? w _ hw196_0)).trans hw196_0), ((HB.out.cell (World.block_lt_of_cell? w _ hw197_0)).trans hw197_0), hcv119, hcv120⟩ (fun hHeld => ?_); refine with_tabW gW.tab18 gW.bits18 (fun HT_ HW_ => ?_)
              generalize wr.drew = w116 at HO_5 HO_7 HO_9 HO_10 HB HR196_0 HR197_0 HR201 hx196_0 hx197_0 hHeld ⊢
              refine pure_ (i := 0) (N := some 109) (v := ?_) (a' := ?_) #[i1,i0,i0,i0,i0,i0,i0,i0,i0,i0,i0,i0,i0,i0,i0,i0,i0] rfl rfl (any_of HT_.out (by kernel_rfl)) (fun _ _ _ h => h) (Or.inl ⟨by rfl, ?_⟩) ?_ ?_
              rotate_left; · intro w'; go_simp; with_reducible rfl
              rotate_left; · simp only [Act.put, q1_, q2_, q3_, i64_w, i32_w]; rfl
              refine pure_ (i := 1) (N := some 110) (v := ?_) (a' := ?_) #[i1,i1,i0,i0,i0,i0,i0,i0,i0,i0,i0,i0,i0,i0,i0,i0,i0] rfl rfl (any_of HT_.out (by kernel_rfl)) (fun _ _ _ h => h) (Or.inl ⟨by rfl, ?_⟩) ?_ ?_
              rotate_left; · intro w'; go_simp; with_reducible rfl
              rotate_left; · simp only [Act.put, q1_, q2_, q3_, i64_w, i32_w]; rfl
              refine pure_ (i := 2) (N := some 111) (v := ?_) (a' := ?_) #[i1,i1,i1,i0,i0,i0,i0,i0,i0,i0,i0,i0,i0,i0,i0,i0,i0] rfl rfl (any_of HT_.out (by kernel_rfl)) (fun _ _ _ h => h) (Or.inl ⟨by rfl, ?_⟩) ?_ ?_
              rotate_left; · intro w'; go_simp; with_reducible rfl
              rotate_left; · simp only [Act.put, q1_, q2_, q3_, i64_w, i32_w]; rfl
              refine pure_ (i := 5) (N := some 114) (v := ?_) (a' := ?_) #[i1,i1,i1,i0,i0,i1,i0,i0,i0,i0,i0,i0,i0,i0,i0,i0,i0] rfl rfl (any_of HT_.out (by kernel_rfl)) (fun _ _ _ h => h) (Or.inl ⟨by rfl, ?_⟩) ?_ ?_
              rotate_left; · intro w'; go_simp; with_reducible rfl
              rotate_left; · simp only [Act.put, q1_, q2_, q3_, i64_w, i32_w]; rfl
              refine pure_ (i := 6) (N := some 115) (v := ?_) (a' := ?_) #[i1,i1,i1,i0,i0,i1,i1,i0,i0,i0,i0,i0,i0,i0,i0,i0,i0] rfl rfl (any_of HT_.out (by kernel_rfl)) (fun _ _ _ h => h) (Or.inl ⟨by rfl, ?_⟩) ?_ ?_
              rotate_left; · intro w'; go_simp; with_reducible rfl
              rotate_left; · simp only [Act.put, q1_, q2_, q3_, i64_w, i32_w]; rfl
              refine pure_ (i := 7) (N := some 116) (v := ?_) (a' := ?_) #[i1,i1,i1,i0,i0,i1,i1,i1,i0,i0,i0,i0,i0,i0,i0,i0,i0] rfl rfl (any_of HT_.out (by kernel_rfl)) (fun _ _ _ h => h) (Or.inl ⟨by rfl, ?_⟩) ?_ ?_
              rotate_left; · intro w'; go_simp; with_reducible rfl
              rotate_left; · simp only [Act.put, q1_, q2_, q3_, i64_w, i32_w]; rfl
              refine pure_ (i := 8) (N := some 117) (v := ?_) (a' := ?_) #[i1,i1,i1,i0,i0,i1,i1,i1,i1,i0,i0,i0,i0,i0,i0,i0,i0] rfl rfl (any_of HT_.out (by kernel_rfl)) (fun _ _ _ h => h) (Or.inl ⟨by rfl, ?_⟩) ?_ ?_
              rotate_left; · intro w'; go_simp; with_reducible rfl
              rotate_left; · simp only [Act.put, q1_, q2_, q3_, i64_w, i32_w]; rfl
              refine pure_ (i := 9) (N := some 118) (v := ?_) (a' := ?_) #[i1,i1,i1,i0,i0,i1,i1,i1,i1,i1,i0,i0,i0,i0,i0,i0,i0] rfl rfl (any_of HT_.out (by kernel_rfl)) (fun _ _ _ h => h) (Or.inl ⟨by rfl, ?_⟩) ?_ ?_
              rotate_left; · intro w'; go_simp; with_reducible rfl
              rotate_left; · simp only [Act.put, q1_, q2_, q3_, i64_w, i32_w]; rfl
              refine pure_ (i := 10) (N := some 119) (v := ?_) (a' := ?_) #[i1,i1,i1,i0,i0,i1,i1,i1,i1,i1,i1,i0,i0,i0,i0,i0,i0] rfl rfl (any_of HT_.out (by kernel_rfl)) (fun _ _ _ h => h) (Or.inl ⟨by rfl, ?_⟩) ?_ ?_
              rotate_left; · intro w'; go_simp; with_reducible rfl
              rotate_left; · simp only [Act.put, q1_, q2_, q3_, i64_w, i32_w]; rfl
              refine take_ (i := 3) (N := some 112) (v := ?_) (a' := ?_) #[i1,i1,i1,i1,i0,i1,i1,i1,i1,i1,i1,i0,i0,i0,i0,i0,i0] rfl rfl (take_ofW HT_.out HW_.out (by kernel_rfl)) (fun _ _ _ h => h) (Or.inl ⟨by rfl, ?_⟩) hHeld ?_ ?_
              rotate_left; · rintro w' ⟨s0, s1, s2, s3⟩; go_simp; with_reducible rfl
              rotate_left; · simp only [Act.put, q1_, q2_, q3_, i64_w, i32_w]; rfl
              refine take_ (i := 4) (N := some 113) (v := ?_) (a' := ?_) #[i1,i1,i1,i1,i1,i1,i1,i1,i1,i1,i1,i0,i0,i0,i0,i0,i0] rfl rfl (take_ofW HT_.out HW_.out (by kernel_rfl)) (fun _ _ _ h => h) (Or.inl ⟨by rfl, ?_⟩) hHeld ?_ ?_
              rotate_left; · rintro w' ⟨s0, s1, s2, s3⟩; go_simp; with_reducible rfl
              rotate_left; · simp only [Act.put, q1_, q2_, q3_, i64_w, i32_w]; rfl
              refine take_ (i := 11) (N := some 120) (v := ?_) (a' := ?_) #[i1,i1,i1,i1,i1,i1,i1,i1,i1,i1,i1,i1,i0,i0,i0,i0,i0] rfl rfl (take_ofW HT_.out HW_.out (by kernel_rfl)) (fun _ _ _ h => h) (Or.inl ⟨by rfl, ?_⟩) hHeld ?_ ?_
              rotate_left; · rintro w' ⟨s0, s1, s2, s3⟩; go_simp; with_reducible rfl
              rotate_left; · simp only [Act.put, q1_, q2_, q3_, i64_w, i32_w]; rfl
              refine pure_ (i := 12) (N := some 121) (v := ?_) (a' := ?_) #[i1,i1,i1,i1,i1,i1,i1,i1,i1,i1,i1,i1,i1,i0,i0,i0,i0] rfl rfl (any_of HT_.out (by kernel_rfl)) (fun _ _ _ h => h) (Or.inl ⟨by rfl, ?_⟩) ?_ ?_
              rotate_left; · intro w'; go_simp; with_reducible rfl
              rotate_left; · simp only [Act.put, q1_, q2_, q3_, i64_w, i32_w]; rfl
              refine pure_ (i := 13) (N := some 122) (v := ?_) (a' := ?_) #[i1,i1,i1,i1,i1,i1,i1,i1,i1,i1,i1,i1,i1,i1,i0,i0,i0] rfl rfl (any_of HT_.out (by kernel_rfl)) (fun _ _ _ h => h) (Or.inl ⟨by rfl, ?_⟩) ?_ ?_
              rotate_left; · intro w'; go_simp; with_reducible rfl
              rotate_left; · simp only [Act.put, q1_, q2_, q3_, i64_w, i32_w]; rfl
              refine pure_ (i := 14) (N := some 123) (v := ?_) (a' := ?_) #[i1,i1,i1,i1,i1,i1,i1,i1,i1,i1,i1,i1,i1,i1,i1,i0,i0] rfl rfl (any_of HT_.out (by kernel_rfl)) (fun _ _ _ h => h) (Or.inl ⟨by rfl, ?_⟩) ?_ ?_
              rotate_left; · intro w'; go_simp; with_reducible rfl
              rotate_left; · simp only [Act.put, q1_, q2_, q3_, i64_w, i32_w]; rfl
              refine take_ (i := 15) (N := some 124) (v := ?_) (a' := ?_) #[i1,i1,i1,i1,i1,i1,i1,i1,i1,i1,i1,i1,i1,i1,i1,i1,i0] rfl rfl (take_ofW HT_.out HW_.out (by kernel_rfl)) (fun _ _ _ h => h) (Or.inl ⟨by rfl, ?_⟩) hHeld ?_ ?_
              rotate_left; · rintro w' ⟨s0, s1, s2, s3⟩; go_simp; with_reducible rfl
              rotate_left; · simp only [Act.put, q1_, q2_, q3_, i64_w, i32_w]; rfl
              refine pure_ (i := 16) (N := some 125) (v := ?_) (a' := ?_) #[i1,i1,i1,i1,i1,i1,i1,i1,i1,i1,i1,i1,i1,i1,i1,i1,i1] rfl rfl (any_of HT_.out (by kernel_rfl)) (fun _ _ _ h => h) (Or.inl ⟨by rfl, ?_⟩) ?_ ?_
              rotate_left; · intro w'; go_simp; with_reducible rfl
              rotate_left; · simp only [Act.put, q1_, q2_, q3_, i64_w, i32_w]; rfl
              refine done_ (done_of HT_.out (by kernel_rfl)) ?_
              have p202 : 0 ≤ (x13_3 : Int) := of_decide_eq_true (by first | (with_reducible assumption) | assumption)
              have q202 : x13_3 < (l4.length : Int) := of_decide_eq_true (by first | (with_reducible assumption) | assumption)
              obtain ⟨ad202, A202_0, c202_0, e202, hx202_0, hl202_0, hi202_0⟩ := at_L1 HR4.out x13_3 p202 q202
              obtain rfl : ad196 = ad202 := (by injection e202)
              replace hx202_0 := (HB.out.cell (World.block_lt_of_cell? w _ hx202_0)).trans hx202_0
              have HR202_0 := Aside0.mk hi202_0
              have HC202_0 := Aside0.mk hl202_0
              clear hi202_0 hl202_0
              replace p202 := eq_true p202
              replace q202 := eq_true q202
              (try (have q202d := q202; simp only [List.length_drop, List.length_take] at q202d))
              try go_wp2
              go_roundg k3
              case measure => have := HK1.out; have := HJ28.out; have := HK3.out; omega
              case rel => exact ⟨(wrap64 (x13_3 + 1)), (wrap64 (x14_3 + ((rd_L1 l4 x13_3).length : Int))), (by first | rfl | (simp; done) | (simp [*]; done)), (by first | rfl | (simp; done) | (simp [*]; done)), H', ⟨by have := HK1.out; have := HJ28.out; have := HK3.out; omega⟩, ⟨by (with_reducible repeat (first | apply Kd.R_alloc | apply Kd.R_drewN | apply Kd.R_drew)); exact Kd.R_mono HO_5.out (fun _ hk => by first | exact hk | exact ⟨hk.2.1, hk.2.2, hk.1⟩ | exact ⟨hk.2.1, hk.1, hk.2.2⟩ | exact ⟨hk.1, hk.2.2, hk.2.1⟩ | exact ⟨hk.2.2, hk.1, hk.2.1⟩ | exact ⟨hk.2.2, hk.2.1, hk.1⟩)⟩, ⟨by (with_reducible repeat (first | apply Kd.R_alloc | apply Kd.R_drewN | apply Kd.R_drew)); exact Kd.R_mono HO_7.out (fun _ hk => by first | exact hk | exact ⟨hk.2.1, hk.2.2, hk.1⟩ | exact ⟨hk.2.1, hk.1, hk.2.2⟩ | exact ⟨hk.1, hk.2.2, hk.2.1⟩ | exact ⟨hk.2.2, hk.1, hk.2.1⟩ | exact ⟨hk.2.2, hk.2.1, hk.1⟩)⟩, ⟨by (with_reducible repeat (first | apply Kd.R_alloc | apply Kd.R_drewN | apply Kd.R_drew)); exact Kd.R_mono HO_9.out (fun _ hk => by first | exact hk | exact ⟨hk.2.1, hk.2.2, hk.1⟩ | exact ⟨hk.2.1, hk.1, hk.2.2⟩ | exact ⟨hk.1, hk.2.2, hk.2.1⟩ | exact ⟨hk.2.2, hk.1, hk.2.1⟩ | exact ⟨hk.2.2, hk.2.1, hk.1⟩)⟩, ⟨by (with_reducible repeat (first | apply Kd.R_alloc | apply Kd.R_drewN | apply Kd.R_drew)); exact HO_10.out⟩, ⟨by repeat (first | (with_reducible first | exact HB.out | apply below_alloc | apply pw_below_drewN | apply below_drew1) | exact HB.out)⟩⟩
            rw [if_neg c110] at H
            have c110b0 : decide (x13_3 < (l4.length : Int)) = false := decide_eq_false c110
            clear c110
            replace H := Option.bind_eq_some_iff.mp H
            obtain ⟨t203, A1220, H⟩ := H
            replace H : (if (strOfNums t162).toList = (strOfNums t203).toList then ((garnerref01_Number.f k3 a0).bind fun t206 => (if (strOfNums t168).toList = (strOfNums t206).toList then (if (strOfNums l3).size + 1 ≤ 9223372036854775807 then (if (strOfNums y152).toList = ((strOfNums l3) ++ (⟨#[119]⟩ : ByteArray)).toList then ((garnerlaw01_known.f).bind fun t209 => (some t209)) else (none)) else (none)) else (none))) else (none)) = some r := H
            have A122 := Aside0.mk A1220
            clear A1220
            by_cases c123 : (strOfNums t162).toList = (strOfNums t203).toList
            · rw [if_pos c123] at H
              have c123b0 : ((strOfNums t162).toList == (strOfNums t203).toList) = true := beq_iff_eq.mpr c123
              have c123b1 : ((strOfNums t162).toList != (strOfNums t203).toList) = false := bne_eq_false_iff_eq.mpr c123
              clear c123
              replace H := Option.bind_eq_some_iff.mp H
              obtain ⟨t206, A1240, H⟩ := H
              replace H : (if (strOfNums t168).toList = (strOfNums t206).toList then (if (strOfNums l3).size + 1 ≤ 9223372036854775807 then (if (strOfNums y152).toList = ((strOfNums l3) ++ (⟨#[119]⟩ : ByteArray)).toList then ((garnerlaw01_known.f).bind fun t209 => (some t209)) else (none)) else (none)) else (none)) = some r := H
              have A124 := Aside0.mk A1240
              clear A1240
              by_cases c125 : (strOfNums t168).toList = (strOfNums t206).toList
              · rw [if_pos c125] at H
                have c125b0 : ((strOfNums t168).toList == (strOfNums t206).toList) = true := beq_iff_eq.mpr c125
                have c125b1 : ((strOfNums t168).toList != (strOfNums t206).toList) = false := bne_eq_false_iff_eq.mpr c125
                clear c125
                have c126 : (strOfNums l3).size + 1 ≤ 9223372036854775807 := Classical.byContradiction fun h_ => by rw [if_neg h_] at H; exact absurd H (by simp)
                rw [if_pos c126] at H
                have c126b0 := eq_true c126
                have c126b1 : decide ((strOfNums l3).size + 1 ≤ 9223372036854775807) = true := decide_eq_true c126
                try have c126b2 : (9223372036854775807 < (strOfNums l3).size + 1) = False := eq_false (Nat.not_lt.2 c126)
                by_cases c127 : (strOfNums y152).toList = ((strOfNums l3) ++ (⟨#[119]⟩ : ByteArray)).toList
                · rw [if_pos c127] at H
                  have c127b0 : ((strOfNums y152).toList == ((strOfNums l3) ++ (⟨#[119]⟩ : ByteArray)).toList) = true := beq_iff_eq.mpr c127
                  have c127b1 : ((strOfNums y152).toList != ((strOfNums l3) ++ (⟨#[119]⟩ : ByteArray)).toList) = false := bne_eq_false_iff_eq.mpr c127
                  clear c127
                  replace H := Option.bind_eq_some_iff.mp H
                  obtain ⟨t209, A1280, H⟩ := H
                  replace H : (some t209) = some r := H
                  have A128 := Aside0.mk A1280
                  clear A1280
                  obtain rfl := Option.some.inj H
                  try go_wp2
                  have n0_ := Aside0.mk (Kd.R_drew HO_5.out)
                  have n1_ := Aside0.mk (Kd.R_drew HO_7.out)
                  have n2_ := Aside0.mk (Kd.R_drew HO_9.out)
                  have n3_ := Aside0.mk (Kd.R_drew HO_10.out)
                  have n4_ := Aside0.mk (below_drew1 HB.out)
                  clear HO_5
                  clear HO_7
                  clear HO_9
                  clear HO_10
                  clear HB
                  have HO_5 := n0_
                  have HO_7 := n1_
                  have HO_9 := n2_
                  have HO_10 := n3_
                  have HB := n4_
                  clear n0_ n1_ n2_ n3_ n4_
                  have hcv130 := own_string (P := Try.prog) Try.underlying23 Try.underlying5 Try.underlying9 (Kd.own_of_R HO_7.out); have hcv130d := fun n_ => own_string (P := Try.prog) Try.underlying23 Try.underlying5 Try.underlying9 (Kd.own_of_R (Kd.R_drewN HO_7.out n_))
                  refine start_ (n := 29) (S := fun w' => (w'.cell? ⟨wz.heap.size, 0, none⟩ = some (.int .u64 a0) ∧ w'.cell? ⟨wz.heap.size, 1, none⟩ = some (.int .i64 a1) ∧ w'.cell? ⟨wz.heap.size, 2, none⟩ = some (.bool a2) ∧ w'.cell? ⟨wz.heap.size, 3, none⟩ = some (.slice A3 l3.length c3)) ∧ (Sem.run Try.prog (Go.convert 23 9 v163) w' = .ok (.string (strOfNums t162)) w') ∧ (Sem.run Try.prog (Go.convert 23 9 v169) w' = .ok (.string (strOfNums t168)) w') ∧ (Sem.run Try.prog (Go.convert 23 9 (.slice Ao18 y152.length co18)) w' = .ok (.string (strOfNums y152)) w') ∧ (Sem.run Try.prog (Go.convert 23 9 (.slice A3 l3.length c3)) w' = .ok (.string (strOfNums l3)) w')) (ds := []) #[i0,i0,i0,i0,i0,i0,i0,i0,i0,i0,i0,i0,i0,i0,i0,i0,i0,i0,i0,i0,i0,i0,i0,i0,i0,i0,i0,i0,i0] (by kernel_rfl) rfl rfl ⟨gW.kept4 HB.out HX.out, own_string (P := Try.prog) Try.underlying23 Try.underlying5 Try.underlying9 (Kd.own_of_R HO_7.out), own_string (P := Try.prog) Try.underlying23 Try.underlying5 Try.underlying9 (Kd.own_of_R HO_9.out), own_string (P := Try.prog) Try.underlying23 Try.underlying5 Try.underlying9 (Kd.own_of_R HO_5.out), Kd.C_string (P := Try.prog) (A := A3) (c := c3) Try.underlying23 Try.underlying5 Try.underlying9 (Kd.C_below HR3.out HB.out)⟩ (fun hHeld => ?_); refine with_tabW gW.tab21 gW.bits21 (fun HT_ HW_ => ?_)
                  generalize wr.drew = w129 at HO_5 HO_7 HO_9 HO_10 HB hHeld ⊢
                  refine pure_ (i := 0) (N := some 133) (v := ?_) (a' := ?_) #[i1,i0,i0,i0,i0,i0,i0,i0,i0,i0,i0,i0,i0,i0,i0,i0,i0,i0,i0,i0,i0,i0,i0,i0,i0,i0,i0,i0,i0] rfl rfl (any_of HT_.out (by kernel_rfl)) (fun _ _ _ h => h) (Or.inl ⟨by rfl, ?_⟩) ?_ ?_
                  rotate_left; · intro w'; go_simp; with_reducible rfl
                  rotate_left; · simp only [Act.put, q1_, q2_, q3_, i64_w, i32_w]; rfl
                  refine take_ (i := 1) (N := some 134) (v := ?_) (a' := ?_) #[i1,i1,i0,i0,i0,i0,i0,i0,i0,i0,i0,i0,i0,i0,i0,i0,i0,i0,i0,i0,i0,i0,i0,i0,i0,i0,i0,i0,i0] rfl rfl (take_ofW HT_.out HW_.out (by kernel_rfl)) (fun _ _ _ h => h) (Or.inl ⟨by rfl, ?_⟩) hHeld ?_ ?_
                  rotate_left; · rintro w' ⟨⟨s0, s1, s2, s3⟩, s4, s5, s6, s7⟩; go_simp; with_reducible rfl
                  rotate_left; · simp only [Act.put, q1_, q2_, q3_, i64_w, i32_w]; rfl
                  refine pure_ (i := 2) (N := some 135) (v := ?_) (a' := ?_) #[i1,i1,i1,i0,i0,i0,i0,i0,i0,i0,i0,i0,i0,i0,i0,i0,i0,i0,i0,i0,i0,i0,i0,i0,i0,i0,i0,i0,i0] rfl rfl (any_of HT_.out (by kernel_rfl)) (fun _ _ _ h => h) (Or.inl ⟨by rfl, ?_⟩) ?_ ?_
                  rotate_left; · intro w'; go_simp; with_reducible rfl
                  rotate_left; · simp only [Act.put, q1_, q2_, q3_, i64_w, i32_w]; rfl
                  refine take_ (i := 3) (N := some 136) (v := ?_) (a' := ?_) #[i1,i1,i1,i1,i0,i0,i0,i0,i0,i0,i0,i0,i0,i0,i0,i0,i0,i0,i0,i0,i0,i0,i0,i0,i0,i0,i0,i0,i0] rfl rfl (take_ofW HT_.out HW_.out (by kernel_rfl)) (fun _ _ _ h => h) (Or.inl ⟨by rfl, ?_⟩) hHeld ?_ ?_
                  rotate_left; · rintro w' ⟨⟨s0, s1, s2, s3⟩, s4, s5, s6, s7⟩; go_simp; with_reducible rfl
                  rotate_left; · simp only [Act.put, q1_, q2_, q3_, i64_w, i32_w]; rfl
                  refine one_ (i := 4) (N := some 137) #[i1,i1,i1,i1,i1,i0,i0,i0,i0,i0,i0,i0,i0,i0,i0,i0,i0,i0,i0,i0,i0,i0,i0,i0,i0,i0,i0,i0,i0] rfl rfl (one_of HT_.out (by kernel_rfl)) (by decide) (fun K hK => ?_)
                  refine goes_ Try.func11 (by kernel_rfl) rfl #[.slice A3 l3.length c3] (by rfl) rfl rfl (by (try simp only [List.map_toArray, List.map_cons, List.map_nil]); first | done | rfl | (simp only [List.length_drop, List.length_take]; rfl)) ?_
                  with_reducible refine (garnerref01_Bytes.calls k3 _ _ l3 t203 _ ?side1 ?side2 A122.out).mono ?_
                  (case side1 => repeat (first | exact (Kd.C_below HR3.out HB.out) | (with_reducible refine Kd.C_alloc ?_ _) | (with_reducible refine Kd.C_drewN ?_ _) | (with_reducible refine Kd.C_drew ?_)))
                  (case side2 => exact HC3.out)
                  rintro e w131 ⟨v204, rfl, ho0, hb⟩
                  refine ⟨_, rfl, ?_⟩
                  have n0_ := Aside0.mk (Kd.R_elder' HO_5.out (Kd.R_base ho0) hb)
                  have n1_ := Aside0.mk (Kd.R_elder' HO_7.out (Kd.R_base ho0) hb)
                  have n2_ := Aside0.mk (Kd.R_elder' HO_9.out (Kd.R_base ho0) hb)
                  have n3_ := Aside0.mk (Kd.R_elder' HO_10.out (Kd.R_base ho0) hb)
                  have n4_ := Aside0.mk (Kd.R_lower (Kd.R_new' (Kd.R_new' (Kd.R_new' (Kd.R_new' ho0 (Kd.R_lt HO_5.out)) (Kd.R_lt HO_7.out)) (Kd.R_lt HO_9.out)) (Kd.R_lt HO_10.out)) (below_size (by repeat (first | (with_reducible first | exact HB.out | apply below_alloc | apply pw_below_drewN | apply below_drew1) | exact HB.out))))
                  have n5_ := Aside0.mk (below_step (by repeat (first | (with_reducible first | exact HB.out | apply below_alloc | apply pw_below_drewN | apply below_drew1) | exact HB.out)) hb)
                  clear HO_5
                  clear HO_7
                  clear HO_9
                  clear HO_10
                  clear HB
                  have HO_5 := n0_
                  have HO_7 := n1_
                  have HO_9 := n2_
                  have HO_10 := n3_
                  have HO205 := n4_
                  have HB := n5_
                  clear n0_ n1_ n2_ n3_ n4_ n5_
                  (try clear hb)
                  (try clear hb2)
                  (try clear hk)
                  (try clear hi)
                  (try clear ho0)
                  have hcv133 := own_string (P := Try.prog) Try.underlying23 Try.underlying5 Try.underlying9 (Kd.own_of_R HO_9.out); have hcv133d := fun n_ => own_string (P := Try.prog) Try.underlying23 Try.underlying5 Try.underlying9 (Kd.own_of_R (Kd.R_drewN HO_9.out n_))
                  refine hK.out _ _ ⟨gW.kept4 HB.out HX.out, own_string (P := Try.prog) Try.underlying23 Try.underlying5 Try.underlying9 (Kd.own_of_R HO_7.out), own_string (P := Try.prog) Try.underlying23 Try.underlying5 Try.underlying9 (Kd.own_of_R HO_9.out), own_string (P := Try.prog) Try.underlying23 Try.underlying5 Try.underlying9 (Kd.own_of_R HO_5.out), Kd.C_string (P := Try.prog) (A := A3) (c := c3) Try.underlying23 Try.underlying5 Try.underlying9 (Kd.C_below HR3.out HB.out)⟩ (fun hHeld => ?_)
                  clear hK K
                  refine norm_ (a' := ?_) ?_ ?_
                  rotate_left
                  · show Act.put _ (some 137) _ = _
                    simp only [Act.put, q1_, q2_, q3_, i64_w, i32_w]
                    rfl
                  refine one_ (i := 5) (N := some 138) #[i1,i1,i1,i1,i1,i1,i0,i0,i0,i0,i0,i0,i0,i0,i0,i0,i0,i0,i0,i0,i0,i0,i0,i0,i0,i0,i0,i0,i0] rfl rfl (one_of HT_.out (by kernel_rfl)) (by decide) (fun K hK => ?_)
                  have hcv132 := own_string (P := Try.prog) Try.underlying23 Try.underlying5 Try.underlying9 (Kd.own_of_R HO205.out); have hcv132d := fun n_ => own_string (P := Try.prog) Try.underlying23 Try.underlying5 Try.underlying9 (Kd.own_of_R (Kd.R_drewN HO205.out n_))
                  refine value_ (w1 := ?_) (v := ?_) (by rfl) rfl ?_ ?_
                  rotate_left 2
                  · go_simp
                    constructor
                    · rfl
                    rfl
                  clear hcv132
                  refine hK.out _ _ ⟨gW.kept4 HB.out HX.out, own_string (P := Try.prog) Try.underlying23 Try.underlying5 Try.underlying9 (Kd.own_of_R HO_7.out), own_string (P := Try.prog) Try.underlying23 Try.underlying5 Try.underlying9 (Kd.own_of_R HO_9.out), own_string (P := Try.prog) Try.underlying23 Try.underlying5 Try.underlying9 (Kd.own_of_R HO_5.out), Kd.C_string (P := Try.prog) (A := A3) (c := c3) Try.underlying23 Try.underlying5 Try.underlying9 (Kd.C_below HR3.out HB.out)⟩ (fun hHeld => ?_)
                  clear hK K
                  refine norm_ (a' := ?_) ?_ ?_
                  rotate_left
                  · show Act.put _ (some 138) _ = _
                    simp only [Act.put, q1_, q2_, q3_, i64_w, i32_w]
                    rfl
                  refine pure_ (i := 6) (N := some 139) (v := ?_) (a' := ?_) #[i1,i1,i1,i1,i1,i1,i1,i0,i0,i0,i0,i0,i0,i0,i0,i0,i0,i0,i0,i0,i0,i0,i0,i0,i0,i0,i0,i0,i0] rfl rfl (any_of HT_.out (by kernel_rfl)) (fun _ _ _ h => h) (Or.inl ⟨by rfl, ?_⟩) ?_ ?_
                  rotate_left; · intro w'; go_simp; with_reducible rfl
                  rotate_left; · simp only [Act.put, q1_, q2_, q3_, i64_w, i32_w]; rfl
                  refine pure_ (i := 7) (N := some 140) (v := ?_) (a' := ?_) #[i1,i1,i1,i1,i1,i1,i1,i1,i0,i0,i0,i0,i0,i0,i0,i0,i0,i0,i0,i0,i0,i0,i0,i0,i0,i0,i0,i0,i0] rfl rfl (any_of HT_.out (by kernel_rfl)) (fun _ _ _ h => h) (Or.inl ⟨by rfl, ?_⟩) ?_ ?_
                  rotate_left; · intro w'; go_simp; with_reducible rfl
                  rotate_left; · simp only [Act.put, q1_, q2_, q3_, i64_w, i32_w]; rfl
                  refine pure_ (i := 8) (N := some 141) (v := ?_) (a' := ?_) #[i1,i1,i1,i1,i1,i1,i1,i1,i1,i0,i0,i0,i0,i0,i0,i0,i0,i0,i0,i0,i0,i0,i0,i0,i0,i0,i0,i0,i0] rfl rfl (any_of HT_.out (by kernel_rfl)) (fun _ _ _ h => h) (Or.inl ⟨by rfl, ?_⟩) ?_ ?_
                  rotate_left; · intro w'; go_simp; with_reducible rfl
                  rotate_left; · simp only [Act.put, q1_, q2_, q3_, i64_w, i32_w]; rfl
                  refine take_ (i := 9) (N := some 142) (v := ?_) (a' := ?_) #[i1,i1,i1,i1,i1,i1,i1,i1,i1,i1,i0,i0,i0,i0,i0,i0,i0,i0,i0,i0,i0,i0,i0,i0,i0,i0,i0,i0,i0] rfl rfl (take_ofW HT_.out HW_.out (by kernel_rfl)) (fun _ _ _ h => h) (Or.inl ⟨by rfl, ?_⟩) hHeld ?_ ?_
                  rotate_left; · rintro w' ⟨⟨s0, s1, s2, s3⟩, s4, s5, s6, s7⟩; go_simp; with_reducible rfl
                  rotate_left; · simp only [Act.put, q1_, q2_, q3_, i64_w, i32_w]; rfl
                  refine pure_ (i := 10) (N := some 143) (v := ?_) (a' := ?_) #[i1,i1,i1,i1,i1,i1,i1,i1,i1,i1,i1,i0,i0,i0,i0,i0,i0,i0,i0,i0,i0,i0,i0,i0,i0,i0,i0,i0,i0] rfl rfl (any_of HT_.out (by kernel_rfl)) (fun _ _ _ h => h) (Or.inl ⟨by rfl, ?_⟩) ?_ ?_
                  rotate_left; · intro w'; go_simp; with_reducible rfl
                  rotate_left; · simp only [Act.put, q1_, q2_, q3_, i64_w, i32_w]; rfl
                  refine take_ (i := 11) (N := some 144) (v := ?_) (a' := ?_) #[i1,i1,i1,i1,i1,i1,i1,i1,i1,i1,i1,i1,i0,i0,i0,i0,i0,i0,i0,i0,i0,i0,i0,i0,i0,i0,i0,i0,i0] rfl rfl (take_ofW HT_.out HW_.out (by kernel_rfl)) (fun _ _ _ h => h) (Or.inl ⟨by rfl, ?_⟩) hHeld ?_ ?_
                  rotate_left; · rintro w' ⟨⟨s0, s1, s2, s3⟩, s4, s5, s6, s7⟩; go_simp; with_reducible rfl
                  rotate_left; · simp only [Act.put, q1_, q2_, q3_, i64_w, i32_w]; rfl
                  refine one_ (i := 12) (N := some 145) #[i1,i1,i1,i1,i1,i1,i1,i1,i1,i1,i1,i1,i1,i0,i0,i0,i0,i0,i0,i0,i0,i0,i0,i0,i0,i0,i0,i0,i0] rfl rfl (one_of HT_.out (by kernel_rfl)) (by decide) (fun K hK => ?_)
                  refine goes_ Try.func12 (by kernel_rfl) rfl #[.int .u64 a0] (by rfl) rfl rfl (by (try simp only [List.map_toArray, List.map_cons, List.map_nil]); first | done | rfl | (simp only [List.length_drop, List.length_take]; rfl)) ?_
                  with_reducible refine (garnerref01_Number.calls k3 a0 t206 _ A124.out).mono ?_
                  rintro e w134 ⟨v207, rfl, ho0, hb⟩
                  refine ⟨_, rfl, ?_⟩
                  have n0_ := Aside0.mk (Kd.R_elder' HO_5.out (Kd.R_base ho0) hb)
                  have n1_ := Aside0.mk (Kd.R_elder' HO_7.out (Kd.R_base ho0) hb)
                  have n2_ := Aside0.mk (Kd.R_elder' HO_9.out (Kd.R_base ho0) hb)
                  have n3_ := Aside0.mk (Kd.R_elder' HO_10.out (Kd.R_base ho0) hb)
                  have n4_ := Aside0.mk (Kd.R_elder' HO205.out (Kd.R_base ho0) hb)
                  have n5_ := Aside0.mk (Kd.R_lower (Kd.R_new' (Kd.R_new' (Kd.R_new' (Kd.R_new' (Kd.R_new' ho0 (Kd.R_lt HO_5.out)) (Kd.R_lt HO_7.out)) (Kd.R_lt HO_9.out)) (Kd.R_lt HO_10.out)) (Kd.R_lt HO205.out)) (below_size (by repeat (first | (with_reducible first | exact HB.out | apply below_alloc | apply pw_below_drewN | apply below_drew1) | exact HB.out))))
                  have n6_ := Aside0.mk (below_step (by repeat (first | (with_reducible first | exact HB.out | apply below_alloc | apply pw_below_drewN | apply below_drew1) | exact HB.out)) hb)
                  clear HO_5
                  clear HO_7
                  clear HO_9
                  clear HO_10
                  clear HO205
                  clear HB
                  have HO_5 := n0_
                  have HO_7 := n1_
                  have HO_9 := n2_
                  have HO_10 := n3_
                  have HO205 := n4_
                  have HO208 := n5_
                  have HB := n6_
                  clear n0_ n1_ n2_ n3_ n4_ n5_ n6_
                  (try clear hb)
                  (try clear hb2)
                  (try clear hk)
                  (try clear hi)
                  (try clear ho0)
                  have hcv136 := own_string (P := Try.prog) Try.underlying23 Try.underlying5 Try.underlying9 (Kd.own_of_R HO_5.out); have hcv136d := fun n_ => own_string (P := Try.prog) Try.underlying23 Try.underlying5 Try.underlying9 (Kd.own_of_R (Kd.R_drewN HO_5.out n_))
                  have hcv137 := Kd.C_string (P := Try.prog) (A := A3) (c := c3) Try.underlying23 Try.underlying5 Try.underlying9 (Kd.C_below HR3.out HB.out); have hcv137d := fun n_ => Kd.C_string (P := Try.prog) (A := A3) (c := c3) Try.underlying23 Try.underlying5 Try.underlying9 (Kd.C_drewN (Kd.C_below HR3.out HB.out) n_)
                  refine hK.out _ _ ⟨gW.kept4 HB.out HX.out, own_string (P := Try.prog) Try.underlying23 Try.underlying5 Try.underlying9 (Kd.own_of_R HO_7.out), own_string (P := Try.prog) Try.underlying23 Try.underlying5 Try.underlying9 (Kd.own_of_R HO_9.out), own_string (P := Try.prog) Try.underlying23 Try.underlying5 Try.underlying9 (Kd.own_of_R HO_5.out), Kd.C_string (P := Try.prog) (A := A3) (c := c3) Try.underlying23 Try.underlying5 Try.underlying9 (Kd.C_below HR3.out HB.out)⟩ (fun hHeld => ?_)
                  clear hK K
                  refine norm_ (a' := ?_) ?_ ?_
                  rotate_left
                  · show Act.put _ (some 145) _ = _
                    simp only [Act.put, q1_, q2_, q3_, i64_w, i32_w]
                    rfl
                  refine one_ (i := 13) (N := some 146) #[i1,i1,i1,i1,i1,i1,i1,i1,i1,i1,i1,i1,i1,i1,i0,i0,i0,i0,i0,i0,i0,i0,i0,i0,i0,i0,i0,i0,i0] rfl rfl (one_of HT_.out (by kernel_rfl)) (by decide) (fun K hK => ?_)
                  have hcv135 := own_string (P := Try.prog) Try.underlying23 Try.underlying5 Try.underlying9 (Kd.own_of_R HO208.out); have hcv135d := fun n_ => own_string (P := Try.prog) Try.underlying23 Try.underlying5 Try.underlying9 (Kd.own_of_R (Kd.R_drewN HO208.out n_))
                  refine value_ (w1 := ?_) (v := ?_) (by rfl) rfl ?_ ?_
                  rotate_left 2
                  · go_simp
                    constructor
                    · rfl
                    rfl
                  clear hcv135
                  refine hK.out _ _ ⟨gW.kept4 HB.out HX.out, own_string (P := Try.prog) Try.underlying23 Try.underlying5 Try.underlying9 (Kd.own_of_R HO_7.out), own_string (P := Try.prog) Try.underlying23 Try.underlying5 Try.underlying9 (Kd.own_of_R HO_9.out), own_string (P := Try.prog) Try.underlying23 Try.underlying5 Try.underlying9 (Kd.own_of_R HO_5.out), Kd.C_string (P := Try.prog) (A := A3) (c := c3) Try.underlying23 Try.underlying5 Try.underlying9 (Kd.C_below HR3.out HB.out)⟩ (fun hHeld => ?_)
                  clear hK K
                  refine norm_ (a' := ?_) ?_ ?_
                  rotate_left
                  · show Act.put _ (some 146) _ = _
                    simp only [Act.put, q1_, q2_, q3_, i64_w, i32_w]
                    rfl
                  refine pure_ (i := 14) (N := some 147) (v := ?_) (a' := ?_) #[i1,i1,i1,i1,i1,i1,i1,i1,i1,i1,i1,i1,i1,i1,i1,i0,i0,i0,i0,i0,i0,i0,i0,i0,i0,i0,i0,i0,i0] rfl rfl (any_of HT_.out (by kernel_rfl)) (fun _ _ _ h => h) (Or.inl ⟨by rfl, ?_⟩) ?_ ?_
                  rotate_left; · intro w'; go_simp; with_reducible rfl
                  rotate_left; · simp only [Act.put, q1_, q2_, q3_, i64_w, i32_w]; rfl
                  refine pure_ (i := 15) (N := some 148) (v := ?_) (a' := ?_) #[i1,i1,i1,i1,i1,i1,i1,i1,i1,i1,i1,i1,i1,i1,i1,i1,i0,i0,i0,i0,i0,i0,i0,i0,i0,i0,i0,i0,i0] rfl rfl (any_of HT_.out (by kernel_rfl)) (fun _ _ _ h => h) (Or.inl ⟨by rfl, ?_⟩) ?_ ?_
                  rotate_left; · intro w'; go_simp; with_reducible rfl
                  rotate_left; · simp only [Act.put, q1_, q2_, q3_, i64_w, i32_w]; rfl
                  refine pure_ (i := 16) (N := some 149) (v := ?_) (a' := ?_) #[i1,i1,i1,i1,i1,i1,i1,i1,i1,i1,i1,i1,i1,i1,i1,i1,i1,i0,i0,i0,i0,i0,i0,i0,i0,i0,i0,i0,i0] rfl rfl (any_of HT_.out (by kernel_rfl)) (fun _ _ _ h => h) (Or.inl ⟨by rfl, ?_⟩) ?_ ?_
                  rotate_left; · intro w'; go_simp; with_reducible rfl
                  rotate_left; · simp only [Act.put, q1_, q2_, q3_, i64_w, i32_w]; rfl
                  refine pure_ (i := 17) (N := some 150) (v := ?_) (a' := ?_) #[i1,i1,i1,i1,i1,i1,i1,i1,i1,i1,i1,i1,i1,i1,i1,i1,i1,i1,i0,i0,i0,i0,i0,i0,i0,i0,i0,i0,i0] rfl rfl (any_of HT_.out (by kernel_rfl)) (fun _ _ _ h => h) (Or.inl ⟨by rfl, ?_⟩) ?_ ?_
                  rotate_left; · intro w'; go_simp; with_reducible rfl
                  rotate_left; · simp only [Act.put, q1_, q2_, q3_, i64_w, i32_w]; rfl
                  refine take_ (i := 18) (N := some 151) (v := ?_) (a' := ?_) #[i1,i1,i1,i1,i1,i1,i1,i1,i1,i1,i1,i1,i1,i1,i1,i1,i1,i1,i1,i0,i0,i0,i0,i0,i0,i0,i0,i0,i0] rfl rfl (take_ofW HT_.out HW_.out (by kernel_rfl)) (fun _ _ _ h => h) (Or.inl ⟨by rfl, ?_⟩) hHeld ?_ ?_
                  rotate_left; · rintro w' ⟨⟨s0, s1, s2, s3⟩, s4, s5, s6, s7⟩; go_simp; with_reducible rfl
                  rotate_left; · simp only [Act.put, q1_, q2_, q3_, i64_w, i32_w]; rfl
                  refine pure_ (i := 19) (N := some 152) (v := ?_) (a' := ?_) #[i1,i1,i1,i1,i1,i1,i1,i1,i1,i1,i1,i1,i1,i1,i1,i1,i1,i1,i1,i1,i0,i0,i0,i0,i0,i0,i0,i0,i0] rfl rfl (any_of HT_.out (by kernel_rfl)) (fun _ _ _ h => h) (Or.inl ⟨by rfl, ?_⟩) ?_ ?_
                  rotate_left; · intro w'; go_simp; with_reducible rfl
                  rotate_left; · simp only [Act.put, q1_, q2_, q3_, i64_w, i32_w]; rfl
                  refine take_ (i := 20) (N := some 153) (v := ?_) (a' := ?_) #[i1,i1,i1,i1,i1,i1,i1,i1,i1,i1,i1,i1,i1,i1,i1,i1,i1,i1,i1,i1,i1,i0,i0,i0,i0,i0,i0,i0,i0] rfl rfl (take_ofW HT_.out HW_.out (by kernel_rfl)) (fun _ _ _ h => h) (Or.inl ⟨by rfl, ?_⟩) hHeld ?_ ?_
                  rotate_left; · rintro w' ⟨⟨s0, s1, s2, s3⟩, s4, s5, s6, s7⟩; go_simp; with_reducible rfl
                  rotate_left; · simp only [Act.put, q1_, q2_, q3_, i64_w, i32_w]; rfl
                  refine take_ (i := 21) (N := some 154) (v := ?_) (a' := ?_) #[i1,i1,i1,i1,i1,i1,i1,i1,i1,i1,i1,i1,i1,i1,i1,i1,i1,i1,i1,i1,i1,i1,i0,i0,i0,i0,i0,i0,i0] rfl rfl (take_ofW HT_.out HW_.out (by kernel_rfl)) (fun _ _ _ h => h) (Or.inl ⟨by rfl, ?_⟩) hHeld ?_ ?_
                  rotate_left; · rintro w' ⟨⟨s0, s1, s2, s3⟩, s4, s5, s6, s7⟩; go_simp; with_reducible rfl
                  rotate_left; · simp only [Act.put, q1_, q2_, q3_, i64_w, i32_w]; rfl
                  refine pure_ (i := 22) (N := some 155) (v := ?_) (a' := ?_) #[i1,i1,i1,i1,i1,i1,i1,i1,i1,i1,i1,i1,i1,i1,i1,i1,i1,i1,i1,i1,i1,i1,i1,i0,i0,i0,i0,i0,i0] rfl rfl (any_of HT_.out (by kernel_rfl)) (fun _ _ _ h => h) (Or.inl ⟨by rfl, ?_⟩) ?_ ?_
                  rotate_left; · intro w'; go_simp; with_reducible rfl
                  rotate_left; · simp only [Act.put, q1_, q2_, q3_, i64_w, i32_w]; rfl
                  refine pure_ (i := 23) (N := some 156) (v := ?_) (a' := ?_) #[i1,i1,i1,i1,i1,i1,i1,i1,i1,i1,i1,i1,i1,i1,i1,i1,i1,i1,i1,i1,i1,i1,i1,i1,i0,i0,i0,i0,i0] rfl rfl (any_of HT_.out (by kernel_rfl)) (fun _ _ _ h => h) (Or.inl ⟨by rfl, ?_⟩) ?_ ?_
                  rotate_left; · intro w'; go_simp; with_reducible rfl
                  rotate_left; · simp only [Act.put, q1_, q2_, q3_, i64_w, i32_w]; rfl
                  refine pure_ (i := 24) (N := some 157) (v := ?_) (a' := ?_) #[i1,i1,i1,i1,i1,i1,i1,i1,i1,i1,i1,i1,i1,i1,i1,i1,i1,i1,i1,i1,i1,i1,i1,i1,i1,i0,i0,i0,i0] rfl rfl (any_of HT_.out (by kernel_rfl)) (fun _ _ _ h => h) (Or.inl ⟨by rfl, ?_⟩) ?_ ?_
                  rotate_left; · intro w'; go_simp; with_reducible rfl
                  rotate_left; · simp only [Act.put, q1_, q2_, q3_, i64_w, i32_w]; rfl
                  refine pure_ (i := 25) (N := some 158) (v := ?_) (a' := ?_) #[i1,i1,i1,i1,i1,i1,i1,i1,i1,i1,i1,i1,i1,i1,i1,i1,i1,i1,i1,i1,i1,i1,i1,i1,i1,i1,i0,i0,i0] rfl rfl (any_of HT_.out (by kernel_rfl)) (fun _ _ _ h => h) (Or.inl ⟨by rfl, ?_⟩) ?_ ?_
                  rotate_left; · intro w'; go_simp; with_reducible rfl
                  rotate_left; · simp only [Act.put, q1_, q2_, q3_, i64_w, i32_w]; rfl
                  refine one_ (i := 26) (N := some 159) #[i1,i1,i1,i1,i1,i1,i1,i1,i1,i1,i1,i1,i1,i1,i1,i1,i1,i1,i1,i1,i1,i1,i1,i1,i1,i1,i1,i0,i0] rfl rfl (one_of HT_.out (by kernel_rfl)) (by decide) (fun K hK => ?_)
                  refine goes_ Try.func18 (by kernel_rfl) rfl #[] (by rfl) rfl rfl (by (try simp only [List.map_toArray, List.map_cons, List.map_nil]); first | done | rfl | (simp only [List.length_drop, List.length_take]; rfl)) ?_
                  with_reducible refine (garnerlaw01_known.calls  t209 _ A128.out).mono ?_
                  rintro e w139 ⟨rfl, hb⟩
                  refine ⟨_, rfl, ?_⟩
                  have n0_ := Aside0.mk (Kd.R_below HO_5.out hb)
                  have n1_ := Aside0.mk (Kd.R_below HO_7.out hb)
                  have n2_ := Aside0.mk (Kd.R_below HO_9.out hb)
                  have n3_ := Aside0.mk (Kd.R_below HO_10.out hb)
                  have n4_ := Aside0.mk (Kd.R_below HO205.out hb)
                  have n5_ := Aside0.mk (Kd.R_below HO208.out hb)
                  have n6_ := Aside0.mk (below_step (by repeat (first | (with_reducible first | exact HB.out | apply below_alloc | apply pw_below_drewN | apply below_drew1) | exact HB.out)) hb)
                  clear HO_5
                  clear HO_7
                  clear HO_9
                  clear HO_10
                  clear HO205
                  clear HO208
                  clear HB
                  have HO_5 := n0_
                  have HO_7 := n1_
                  have HO_9 := n2_
                  have HO_10 := n3_
                  have HO205 := n4_
                  have HO208 := n5_
                  have HB := n6_
                  clear n0_ n1_ n2_ n3_ n4_ n5_ n6_
                  (try clear hb)
                  (try clear hb2)
                  (try clear hk)
                  (try clear hi)
                  refine hK.out _ _ ⟨gW.kept4 HB.out HX.out, own_string (P := Try.prog) Try.underlying23 Try.underlying5 Try.underlying9 (Kd.own_of_R HO_7.out), own_string (P := Try.prog) Try.underlying23 Try.underlying5 Try.underlying9 (Kd.own_of_R HO_9.out), own_string (P := Try.prog) Try.underlying23 Try.underlying5 Try.underlying9 (Kd.own_of_R HO_5.out), Kd.C_string (P := Try.prog) (A := A3) (c := c3) Try.underlying23 Try.underlying5 Try.underlying9 (Kd.C_below HR3.out HB.out)⟩ (fun hHeld => ?_)
                  clear hK K
                  refine norm_ (a' := ?_) ?_ ?_
                  rotate_left
                  · show Act.put _ (some 159) _ = _
                    simp only [Act.put, q1_, q2_, q3_, i64_w, i32_w]
                    rfl
                  refine pure_ (i := 27) (N := some 160) (v := ?_) (a' := ?_) #[i1,i1,i1,i1,i1,i1,i1,i1,i1,i1,i1,i1,i1,i1,i1,i1,i1,i1,i1,i1,i1,i1,i1,i1,i1,i1,i1,i1,i0] rfl rfl (any_of HT_.out (by kernel_rfl)) (fun _ _ _ h => h) (Or.inl ⟨by rfl, ?_⟩) ?_ ?_
                  rotate_left; · intro w'; go_simp; with_reducible rfl
                  rotate_left; · simp only [Act.put, q1_, q2_, q3_, i64_w, i32_w]; rfl
                  refine pure_ (i := 28) (N := some 4) (v := ?_) (a' := ?_) #[i1,i1,i1,i1,i1,i1,i1,i1,i1,i1,i1,i1,i1,i1,i1,i1,i1,i1,i1,i1,i1,i1,i1,i1,i1,i1,i1,i1,i1] rfl rfl (any_of HT_.out (by kernel_rfl)) (fun _ _ _ h => h) (Or.inl ⟨by rfl, ?_⟩) ?_ ?_
                  rotate_left; · intro w'; go_simp; with_reducible rfl
                  rotate_left; · simp only [Act.put, q1_, q2_, q3_, i64_w, i32_w]; rfl
                  refine done_ (done_of HT_.out (by kernel_rfl)) ?_
                  try go_wp2
                  go_ret
                  exact ⟨by first | rfl | (simp [errW_none, errW_some] <;> rfl) | (simp [*, errW_none, errW_some] <;> rfl), below_step HZ.out (by repeat (first | (with_reducible first | exact HB.out | apply below_alloc | apply pw_below_drewN | apply below_drew1) | exact HB.out))⟩
                rw [if_neg c127] at H
                have c127b0 : ((strOfNums y152).toList == ((strOfNums l3) ++ (⟨#[119]⟩ : ByteArray)).toList) = false := beq_eq_false_iff_ne.mpr c127
                have c127b1 : ((strOfNums y152).toList != ((strOfNums l3) ++ (⟨#[119]⟩ : ByteArray)).toList) = true := bne_iff_ne.mpr c127
                exact absurd H (by simp)
              rw [if_neg c125] at H
              have c125b0 : ((strOfNums t168).toList == (strOfNums t206).toList) = false := beq_eq_false_iff_ne.mpr c125
              have c125b1 : ((strOfNums t168).toList != (strOfNums t206).toList) = true := bne_iff_ne.mpr c125
              exact absurd H (by simp)
            rw [if_neg c123] at H
            have c123b0 : ((strOfNums t162).toList == (strOfNums t203).toList) = false := beq_eq_false_iff_ne.mpr c123
            have c123b1 : ((strOfNums t162).toList != (strOfNums t203).toList) = true := bne_iff_ne.mpr c123
            exact absurd H (by simp)

end Go.Proofs.Ytmghnbdbhdljjaa.HS
