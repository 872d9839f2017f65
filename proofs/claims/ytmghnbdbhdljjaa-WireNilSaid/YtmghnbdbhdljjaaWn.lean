/- The law WireNil's call: readers and functions that are not there. -/
import Derived.Test.YtmghnbdbhdljjaaWb
namespace Go.Proofs.Ytmghnbdbhdljjaa.Wl
open Go.RowKit Go.Proofs.YtmghnbdbhdljjaaW.PrintWords Go.Proofs.YtmghnbdbhdljjaaW.PrintLast Go.Proofs.YtmghnbdbhdljjaaW.PrintMore Go.Proofs.Ytmghnbdbhdljjaa.HS
set_option linter.unusedVariables false
set_option linter.unusedSimpArgs false
/-- No reader: nil, or a zero one. -/
def No (w : World) (p : Value) : Prop := p = .pointer none ∨ ∃ g, p = .pointer (some ⟨g, 0, none⟩) ∧ w.cell? ⟨g, 0, none⟩ = some (.slice none 0 0)
theorem No.below {w W : World} {p : Value} (h : No w p) (hb : Below w.heap.size w W) : No W p := by
  rcases h with rfl | ⟨g, rfl, hc⟩
  · exact Or.inl rfl
  · exact Or.inr ⟨g, rfl, pw_cell_below hb hc⟩
theorem no_there (p : Value) (w : World) (h : No w p) : Calls Try.prog 38 #[p] w fun e w' => e = .returned (.bool false) ∧ w = w' := by
  rcases h with rfl | ⟨g, rfl, hc⟩
  · go_enter Try.func38, Try.ntmps38
    go_wp2
    go_ret
    exact ⟨rfl, rfl⟩
  · go_enter Try.func38, Try.ntmps38
    go_wp2
    go_ret
    exact ⟨rfl, rfl⟩
set_option maxRecDepth 100000 in
theorem no_number (p : Value) (w : World) (h : No w p) : Calls Try.prog 20 #[p] w fun e w' => e = .returned (.tuple #[.int .u64 0, .int .i64 1]) ∧ Drawn0 w w' := by
  have H := Aside0.mk h
  clear h
  go_enter Try.func20, Try.ntmps20
  go_wp2
  go_step3
  go_wp2_with (first | (go_at_call 38; refine (no_there _ _ H.out).mono ?_; rintro e w' ⟨rfl, rfl⟩))
  try rw [Exit.noGoto_ret]
  go_ret2
  exact ⟨by first | rfl | decide, by first | exact Drawn0.refl _ | exact ⟨⟨_, rfl⟩⟩⟩
set_option maxRecDepth 100000 in
theorem no_flag (p : Value) (w : World) (h : No w p) : Calls Try.prog 23 #[p] w fun e w' => e = .returned (.tuple #[.bool false, .int .i64 1]) ∧ Drawn0 w w' := by
  have H := Aside0.mk h
  clear h
  go_enter Try.func23, Try.ntmps23
  go_wp2_with (first | (go_at_call 38; refine (no_there _ _ H.out).mono ?_; rintro e w' ⟨rfl, rfl⟩))
  try rw [Exit.noGoto_ret]
  go_ret2
  exact ⟨by first | rfl | decide, by first | exact Drawn0.refl _ | exact ⟨⟨_, rfl⟩⟩⟩
set_option maxRecDepth 100000 in
theorem no_bytes (p : Value) (w : World) (h : No w p) : Calls Try.prog 22 #[p, .int .i64 (-1)] w fun e w' => e = .returned (.tuple #[.slice none 0 0, .int .i64 1]) ∧ Drawn0 w w' := by
  have H := Aside0.mk h
  clear h
  go_enter Try.func22, Try.ntmps22
  go_wp2_with (first | (go_at_call 38; refine (no_there _ _ H.out).mono ?_; rintro e w' ⟨rfl, rfl⟩))
  try rw [Exit.noGoto_ret]
  go_ret2
  exact ⟨by first | rfl | decide, by first | exact Drawn0.refl _ | exact ⟨⟨_, rfl⟩⟩⟩
set_option maxRecDepth 100000 in
theorem no_left (p : Value) (w : World) (h : No w p) : Calls Try.prog 26 #[p] w fun e w' => e = .returned (.int .i64 0) ∧ Drawn0 w w' := by
  have H := Aside0.mk h
  clear h
  go_enter Try.func26, Try.ntmps26
  go_wp2_with (first | (go_at_call 38; refine (no_there _ _ H.out).mono ?_; rintro e w' ⟨rfl, rfl⟩))
  try rw [Exit.noGoto_ret]
  go_ret
  exact ⟨by first | rfl | decide, by first | exact Drawn0.refl _ | exact ⟨⟨_, rfl⟩⟩⟩
set_option maxRecDepth 100000 in
theorem no_end (p : Value) (w : World) (h : No w p) : Calls Try.prog 25 #[p] w fun e w' => e = .returned (.int .i64 1) ∧ Drawn0 w w' := by
  have H := Aside0.mk h
  clear h
  go_enter Try.func25, Try.ntmps25
  go_wp2_with (first | (go_at_call 38; refine (no_there _ _ H.out).mono ?_; rintro e w' ⟨rfl, rfl⟩))
  try rw [Exit.noGoto_ret]
  go_ret
  exact ⟨by first | rfl | decide, by first | exact Drawn0.refl _ | exact ⟨⟨_, rfl⟩⟩⟩
set_option maxRecDepth 100000 in
theorem no_signed (p : Value) (w : World) (h : No w p) : Calls Try.prog 21 #[p] w fun e w' => e = .returned (.tuple #[.int .i64 0, .int .i64 1]) ∧ Drawn0 w w' := by
  have H := Aside0.mk h
  clear h
  go_enter Try.func21, Try.ntmps21
  go_wp2_with (first | (go_at_call 20; refine (no_number _ _ H.out).mono ?_; rintro e w' ⟨rfl, ⟨m, rfl⟩⟩))
  go_ret2
  exact ⟨congrArg (fun z => Ending.returned (Value.tuple #[.int .i64 z, .int .i64 1])) (Rd.sgn_eq 0 (by omega)), by first | exact Drawn0.refl _ | exact ⟨⟨_, rfl⟩⟩⟩
set_option maxRecDepth 100000 in
theorem no_nothing (p : Value) (w : World) (h : No w p) : Calls Try.prog 36 #[p] w fun e w' => e = .returned (.bool true) ∧ Below w.heap.size w w' := by
  have H := Aside0.mk h
  have HB := Aside0.mk (Below.refl w.heap.size w)
  clear h
  go_enter Try.func36, Try.ntmps36
  go_wp2_with (first | (go_at_call 20; refine (no_number _ _ H.out).mono ?_; rintro e wn ⟨rfl, hd⟩; have hb := hd.below; replace H := Aside0.mk (H.out.below hb); replace HB := Aside0.mk (below_step HB.out hb); clear hd hb) | (go_at_call 21; refine (no_signed _ _ H.out).mono ?_; rintro e wn ⟨rfl, hd⟩; have hb := hd.below; replace H := Aside0.mk (H.out.below hb); replace HB := Aside0.mk (below_step HB.out hb); clear hd hb) | (go_at_call 23; refine (no_flag _ _ H.out).mono ?_; rintro e wn ⟨rfl, hd⟩; have hb := hd.below; replace H := Aside0.mk (H.out.below hb); replace HB := Aside0.mk (below_step HB.out hb); clear hd hb) | (go_at_call 22; refine (no_bytes _ _ H.out).mono ?_; rintro e wn ⟨rfl, hd⟩; have hb := hd.below; replace H := Aside0.mk (H.out.below hb); replace HB := Aside0.mk (below_step HB.out hb); clear hd hb) | (go_at_call 25; refine (no_end _ _ H.out).mono ?_; rintro e wn ⟨rfl, hd⟩; have hb := hd.below; replace H := Aside0.mk (H.out.below hb); replace HB := Aside0.mk (below_step HB.out hb); clear hd hb) | (go_at_call 26; refine (no_left _ _ H.out).mono ?_; rintro e wn ⟨rfl, hd⟩; have hb := hd.below; replace H := Aside0.mk (H.out.below hb); replace HB := Aside0.mk (below_step HB.out hb); clear hd hb) | (go_at_call 24; refine (num_call _ _).mono ?_; rintro e wn ⟨rfl, hd⟩; have hb := hd.below; replace H := Aside0.mk (H.out.below hb); replace HB := Aside0.mk (below_step HB.out hb); clear hd hb))
  go_ret
  exact ⟨by simp, HB.out⟩
theorem run_equalIn_nil_nil {t : TypeId} {ps rs : Array TypeId} {v : Bool} (ht : Try.prog.underlying t = some (.func ps rs v)) (d : Nat) (w : World) : (Op.equalIn (d + 1) t .nilFunc .nilFunc).run Try.prog w = .ok true w := by
  simp [Op.equalIn, run_underlying ht]
theorem run_eql_nil_nil {t : TypeId} {ps rs : Array TypeId} {v : Bool} (ht : Try.prog.underlying t = some (.func ps rs v)) (w : World) : (Go.binOp .eql t .nilFunc .nilFunc).run Try.prog w = .ok (.bool true) w := by
  simp only [Go.binOp]
  simp [Op.equal, Op.maxDepth, run_equalIn_nil_nil ht 9999]
theorem num_0 (w : World) : Calls Try.prog 9 #[.int .u64 0] w fun e w' => ∃ (A : Option Addr) (c : Nat), e = .returned (.slice A 1 c) ∧ 1 ≤ c ∧ Kd.C (Kd.int .u8) w' A 1 [0] ∧ Below w.heap.size w w' := by
  have h := num_c 0 (by omega) w
  refine h.mono fun e w' ⟨v, he, hx, hb⟩ => ?_
  obtain ⟨A, c, rfl, hc, hC⟩ := Kd.R_reads hx
  exact ⟨A, c, he, hc, hC, hb⟩
theorem put_none (w : World) : Calls Try.prog 33 #[.slice none 0 0, .nilFunc] w fun e w' => e = .returned (.tuple #[.slice none 0 0, .int .i64 1]) ∧ Drawn0 w w' := by
  have hnil := fun (W : World) => run_eql_nil_nil Try.underlying68 W
  go_enter Try.func33, Try.ntmps33
  go_wp2
  try rw [Exit.noGoto_ret]
  go_ret2
  exact ⟨rfl, by first | exact Drawn0.refl _ | exact ⟨⟨_, rfl⟩⟩⟩
def PutPost (w : World) (e : Ending) (w' : World) : Prop := ∃ (A : Option Addr) (c : Nat), e = .returned (.tuple #[.slice A 1 c, .int .i64 0]) ∧ 1 ≤ c ∧ Kd.C (Kd.int .u8) w' A 1 [0] ∧ Below w.heap.size w w'
set_option maxRecDepth 100000 in
theorem put_empty (w : World) : Calls Try.prog 33 #[.slice none 0 0, .func (.func 34) #[] #[]] w (PutPost w) := by
  have hnil := fun (W : World) => Rd.run_eql_func_nil Try.underlying68 34 #[] #[] W
  go_enter Try.func33, Try.ntmps33
  go_wp2_with (first | (go_at_call 9; refine (num_0 _).mono ?_; rintro e w1 ⟨A1, c1, rfl, hc1, hC, hb⟩; have HC := Aside0.mk hC; have HB := Aside0.mk hb; clear hb hC))
  go_loop [6, 17] (fun x i => x = .slice A1 1 c1 ∧ i = .int .i64 0) (fun _ _ => 0)
  case atStart => exact ⟨rfl, rfl⟩
  case round =>
    obtain ⟨rfl, rfl⟩ := hrel
    go_wp2
    go_ret2
    exact ⟨A1, c1, rfl, hc1, HC.out, HB.out⟩
set_option maxRecDepth 100000 in
theorem take_none (g y : Nat) (b : List Int) (n : Nat) (w : World) (h : Rd.Is w g y b n) : Calls Try.prog 35 #[.pointer (some ⟨g, 0, none⟩), .int .i64 5, .nilFunc] w fun e w' => e = .returned (.tuple #[.slice none 0 0, .int .i64 1]) ∧ Drawn0 w w' := by
  have H := Aside0.mk h
  have hnil := fun (W : World) => run_eql_nil_nil Try.underlying93 W
  clear h
  go_enter Try.func35, Try.ntmps35
  go_wp2_with (first | (go_at_call 38; refine (Rd.there _ _ _ _ _ H.out).mono ?_; rintro e w' ⟨rfl, rfl⟩))
  try rw [Exit.noGoto_ret]
  go_ret2
  exact ⟨rfl, by first | exact Drawn0.refl _ | exact ⟨⟨_, rfl⟩⟩⟩
set_option maxRecDepth 100000 in
theorem take_nil (w : World) : Calls Try.prog 29 #[.pointer none, .int .i64 (-1), .func (.func 30) #[] #[]] w fun e w' => e = .returned (.tuple #[.slice none 0 0, .int .i64 1]) ∧ Drawn0 w w' := by
  go_enter Try.func29, Try.ntmps29
  go_wp2_with (first | (go_at_call 38; refine (no_there _ _ (Or.inl rfl)).mono ?_; rintro e w' ⟨rfl, rfl⟩))
  try rw [Exit.noGoto_ret]
  go_ret2
  exact ⟨rfl, by first | exact Drawn0.refl _ | exact ⟨⟨_, rfl⟩⟩⟩
theorem open_0 {A : Option Addr} {c : Nat} {w : World} (h : Kd.C (Kd.int .u8) w A 1 [0]) (hc : 1 ≤ c) : Calls Try.prog 19 #[.slice A 1 c] w (Rd.OpenPost [0] w) := open_rows (s := [0]) h hc (by intro x hx; simp at hx; omega) (by decide)
theorem nothing_nil (w : World) : Calls Try.prog 36 #[.pointer none] w fun e w' => e = .returned (.bool true) ∧ Below w.heap.size w w' := no_nothing _ _ (Or.inl rfl)
theorem nothing_zero (w : World) : Calls Try.prog 36 #[.pointer (some ⟨w.heap.size, 0, none⟩)] (w.alloc (.cells #[.slice none 0 0, .int .i64 0] 73)) fun e w' => e = .returned (.bool true) ∧ Below w.heap.size w w' :=
  (no_nothing _ _ (Or.inr ⟨w.heap.size, rfl, (blk_cell (blk_new w (.cells #[.slice none 0 0, .int .i64 0] 73)) 0).trans rfl⟩)).mono fun e w' ⟨h1, h2⟩ => ⟨h1, below_then (below_alloc (Below.refl _ _) _) (by simp) h2⟩
set_option maxHeartbeats 8000000 in
set_option maxRecDepth 100000 in
theorem nil_walk (w : World) : Calls Try.prog 7 #[] w (RightPost w) := by
  have HB := Aside0.mk (Below.refl w.heap.size w)
  have q2 : ((strOfNums [0]).toList == ([0] : List UInt8)) = true := by decide +kernel
  go_enter Try.func7, Try.ntmps7
  go_wp2_with (first | (go_at_call 33; (with_reducible refine (put_none _).mono ?_); rintro e w1 ⟨rfl, hd⟩; have hb := hd.below; replace HB := Aside0.mk (below_step HB.out hb); clear hd hb) | (go_at_call 33; (with_reducible refine (put_empty _).mono ?_); rintro e w2 ⟨A2, c2, rfl, hc2, hC, hb⟩; have HC := Aside0.mk hC; replace HB := Aside0.mk (below_step HB.out hb); clear hC hb) | ((with_reducible refine gate_dst (N := 18) rfl ?_); (try (refine gate_guard (by rfl) ?_; dsimp only)); refine Kd.R_lit (Kd.int .u8) _ 5 ?hg (N := 18) ?hd (xs := ([0] : List Int)) (inner := [.int .u8 0]) (ok := fun _ => True) (okp := fun _ => True) ?hr ?hp (fun _ hk => hk) trivial (Below.refl _ _) (Nat.le_refl _) (by simp) ?_; (case hd => rfl); (case hg => rfl); (case hr => first | (go_simp; done) | (go_simp; rfl)); (case hp => exact (Reps.one (show Kd.M (Kd.int .u8) _ _ _ 0 [.int .u8 0] from rfl) (Reps.none _ _))); intro v_ w3 ho hb hg_ hnew_; clear hg_ hnew_; obtain ⟨A3, c3, rfl, hc3, hC⟩ := Kd.R_reads ho; (try replace HC := Aside0.mk (Kd.C_below HC.out hb)); have HL := Aside0.mk hC; replace HB := Aside0.mk (below_step HB.out hb); clear ho hb hC) | (go_at_call 19; (with_reducible refine (open_0 HL.out hc3).mono ?_); rintro e w4 ⟨g1, q1, rfl, hr, hq, hg, hb⟩; have HR := Aside0.mk hr; (try replace HC := Aside0.mk (Kd.C_below HC.out hb)); replace HB := Aside0.mk (below_step HB.out hb); clear hr hq hg hb) | (go_at_call 35; (with_reducible refine (take_none _ _ _ _ _ HR.out).mono ?_); rintro e w5 ⟨rfl, hd⟩; have hb := hd.below; replace HB := Aside0.mk (below_step HB.out hb); (try replace HC := Aside0.mk (Kd.C_below HC.out hb)); clear hd hb) | (go_at_call 29; (with_reducible refine (take_nil _).mono ?_); rintro e w6 ⟨rfl, hd⟩; have hb := hd.below; replace HB := Aside0.mk (below_step HB.out hb); (try replace HC := Aside0.mk (Kd.C_below HC.out hb)); have hcv := Kd.C_string (P := Try.prog) (src := 23) (dst := 9) (A := A2) (c := c2) Try.underlying23 Try.underlying5 Try.underlying9 HC.out; clear hd hb) | (go_at_call 24; refine (num_call _ _).mono ?_; rintro e wn ⟨rfl, hd⟩; have hb := hd.below; replace HB := Aside0.mk (below_step HB.out hb); (try clear hcv); (try replace HC := Aside0.mk (Kd.C_below HC.out hb)); have hcv := Kd.C_string (P := Try.prog) (src := 23) (dst := 9) (A := A2) (c := c2) Try.underlying23 Try.underlying5 Try.underlying9 HC.out; clear hd hb) | (go_at_call 36; (with_reducible refine (nothing_nil _).mono ?_); rintro e wk ⟨rfl, hb⟩; replace HB := Aside0.mk (below_step HB.out hb); clear hb) | (go_at_call 36; (with_reducible refine (nothing_zero _).mono ?_); rintro e wk ⟨rfl, hb⟩; replace HB := Aside0.mk (below_step HB.out hb); clear hb) | (go_at_call 18; refine (known_call _).mono ?_; rintro e wk ⟨rfl, hb⟩; replace HB := Aside0.mk (below_step HB.out hb); clear hb))
  go_ret
  exact ⟨by first | rfl | simp, HB.out⟩
end Go.Proofs.Ytmghnbdbhdljjaa.Wl
