/- WireWrites, plainly: what its walk computes is true. -/
import Derived.Test.YtmghnbdbhdljjaaWp
import Derived.Test.YtmghnbdbhdljjaaWw
import Derived.Lib.Zigzag
namespace Go.Proofs.Ytmghnbdbhdljjaa.Wq
open Go.RowKit Go.Proofs.YtmghnbdbhdljjaaW.PrintWords Go.Proofs.YtmghnbdbhdljjaaW.PrintLast Go.Proofs.YtmghnbdbhdljjaaW.PrintMore Go.Proofs.Ytmghnbdbhdljjaa.HS
set_option linter.unusedVariables false
set_option linter.unusedSimpArgs false
theorem number_form (N : Nat) (h : N < 18446744073709551616) : wire_Number.f (N : Int) = some (Rd.wnum N) := by
  unfold wire_Number.f
  rw [if_pos ⟨by omega, by omega⟩, Int.toNat_natCast]
theorem fold_zig {z : Int} (h1 : -9223372036854775808 ≤ z) (h2 : z ≤ 9223372036854775807) : Go.bits .xor .u64 (IntKind.u64.wrap ((IntKind.u64.wrap z) * 2)) (IntKind.u64.wrap (z / 9223372036854775808)) = ((Rd.fold z : Nat) : Int) := by
  by_cases h : z < 0
  · have e2 : IntKind.u64.wrap (z / 9223372036854775808) = 18446744073709551615 := by
      rw [show z / 9223372036854775808 = -1 by omega]; rfl
    have := Go.Lib.zigzag_neg h1 h
    have e3 : (Go.Lib.zigzag z : Nat) = Rd.fold z := by unfold Go.Lib.zigzag Rd.fold; rw [if_neg (by omega), if_pos h]; omega
    rw [e2, ← e3, ← this]
    show IntKind.u64.wrap ((BitVec.ofInt 64 _ ^^^ BitVec.ofInt 64 _).toNat : Int) = IntKind.u64.wrap ((BitVec.ofInt 64 _ ^^^ BitVec.ofInt 64 _).toNat : Int)
    rw [BitVec.xor_comm]
    rfl
  · obtain ⟨n, rfl⟩ := Int.eq_ofNat_of_zero_le (show 0 ≤ z by omega)
    have e1 : IntKind.u64.wrap ((IntKind.u64.wrap (n : Int)) * 2) = ((2 * n : Nat) : Int) := by
      rw [IntKind.wrap_u64, IntKind.wrap_u64]; omega
    have e2 : IntKind.u64.wrap ((n : Int) / 9223372036854775808) = 0 := by
      rw [show (n : Int) / 9223372036854775808 = 0 by omega]; rfl
    have e3 : Rd.fold (n : Int) = 2 * n := by unfold Rd.fold; rw [if_neg (by omega)]; omega
    rw [e1, e2, e3]
    show IntKind.u64.wrap ((BitVec.ofInt 64 _ ^^^ BitVec.ofInt 64 0).toNat : Int) = _
    rw [show BitVec.ofInt 64 0 = 0#64 by decide, BitVec.xor_zero, BitVec.ofInt_natCast, BitVec.toNat_ofNat, Nat.mod_eq_of_lt (by omega), IntKind.wrap_u64]
    omega
theorem signed_form {z : Int} (h1 : -9223372036854775808 ≤ z) (h2 : z ≤ 9223372036854775807) : wire_Signed.f z = some (Rd.wnum (Rd.fold z)) := by
  unfold wire_Signed.f
  rw [fold_zig h1 h2, number_form _ (Rd.fold_lt h1 (by omega))]
  rfl
theorem bytes_form {l : List Int} (h : l.length ≤ 140737488355317) : wire_Bytes.f l = some (Rd.wbytes l) := by
  unfold wire_Bytes.f
  have hw : IntKind.u64.wrap (l.length : Int) = (l.length : Int) := by rw [IntKind.wrap_u64]; omega
  have hn := Rd.wnum_len l.length
  rw [hw, number_form _ (by omega)]
  simp only [Option.bind_some]
  rw [if_pos (by omega)]
  rfl
theorem flag_form (f : Bool) : wire_Flag.f f = some [Rd.cflag f] := by cases f <;> rfl
theorem join_go (l : List (List Int)) : ∀ (k i : Nat) (acc : List Int), l.length < k + i → i ≤ l.length → acc.length + (l.drop i).flatten.length < 140737488355328 → l.length < 9223372036854775807 → wire_Join.l0 k acc l (l.length : Int) (i : Int) = some (acc ++ (l.drop i).flatten)
  | 0, i, acc, hk, hi, hl, hm => by omega
  | k + 1, i, acc, hk, hi, hl, hm => by
    rw [wire_Join.l0]
    by_cases h : i < l.length
    · have hr : rd_L1 l (i : Int) = l[i] := by simp [rd_L1, h]
      have hd : l.drop i = l[i] :: l.drop (i + 1) := List.drop_eq_getElem_cons h
      rw [hd, List.flatten_cons, List.length_append] at hl
      rw [if_pos (by omega), if_pos (by omega), if_pos (by omega), hr, if_pos (by omega), show wrap64 ((i : Int) + 1) = ((i + 1 : Nat) : Int) by unfold wrap64; omega, join_go l k (i + 1) _ (by omega) (by omega) (by rw [List.length_append]; omega) hm, hd, List.flatten_cons, List.append_assoc]
    · rw [if_neg (by omega), List.drop_eq_nil_of_le (by omega)]
      simp
theorem join_form (l : List (List Int)) (k : Nat) (hk : l.length < k) (h : l.flatten.length < 140737488355328) (hm : l.length < 9223372036854775807) : wire_Join.f k l = some l.flatten := by
  have := join_go l k 0 [] (by omega) (by omega) (by simpa using h) hm
  simpa [wire_Join.f] using this
theorem refnum_go : ∀ (j k m : Nat) (xs : List Int), m < 2 ^ (7 * j + 1) → m < 18446744073709551616 → j < k → xs.length + j + 1 < 140737488355328 → garnerref01_Number.l0 k (m : Int) xs = some (xs ++ Rd.wnumF j m)
  | 0, 0, m, xs, _, _, h, _ => by omega
  | 0, k + 1, m, xs, h, h2, hk, hl => by
    simp at h
    rw [garnerref01_Number.l0, if_neg (by omega), if_pos (by omega), Rd.wnumF, show ((m : Int) % 256) = m by omega]
  | j + 1, 0, m, xs, _, _, h, _ => by omega
  | j + 1, k + 1, m, xs, h, h2, hk, hl => by
    rw [garnerref01_Number.l0, Rd.wnumF]
    by_cases hb : 127 < m
    · have hd : m / 128 < 2 ^ (7 * j + 1) := by
        rw [show 7 * (j + 1) + 1 = (7 * j + 1) + 7 by omega, Nat.pow_add] at h
        exact Nat.div_lt_of_lt_mul (by rw [Nat.mul_comm]; exact h)
      have e1 : IntKind.u64.wrap (Int.tdiv (m : Int) 128) = ((m / 128 : Nat) : Int) := by
        rw [Int.tdiv_eq_ediv_of_nonneg (by omega), IntKind.wrap_u64]; omega
      have e2 : IntKind.u64.wrap ((Int.tmod (m : Int) 128) + 128) % 256 = ((m % 128 + 128 : Nat) : Int) := by
        rw [Int.tmod_eq_emod_of_nonneg (by omega), IntKind.wrap_u64]; omega
      rw [if_pos (by omega), if_pos (by omega), if_pos hb, e1, e2, refnum_go j k (m / 128) _ hd (by omega) (by omega) (by simp; omega)]
      simp
    · rw [if_neg (by omega), if_pos (by omega), if_neg hb, show ((m : Int) % 256) = m by omega]
theorem refnum_form (k N : Nat) (hk : 10 ≤ k) (h : N < 18446744073709551616) : garnerref01_Number.f k (N : Int) = some (Rd.wnum N) := by
  unfold garnerref01_Number.f
  rw [refnum_go 9 k N [] (by simpa using h) h (by omega) (by simp)]
  rfl
theorem refbytes_form (k : Nat) {l : List Int} (hk : 10 ≤ k) (h : l.length ≤ 140737488355317) : garnerref01_Bytes.f k l = some (Rd.wbytes l) := by
  unfold garnerref01_Bytes.f
  have hw : IntKind.u64.wrap (l.length : Int) = (l.length : Int) := by rw [IntKind.wrap_u64]; omega
  have hn := Rd.wnum_len l.length
  rw [hw, refnum_form k _ hk (by omega)]
  simp only [Option.bind_some]
  rw [if_pos (by omega)]
  rfl
theorem reffold_form {z : Int} (h1 : -9223372036854775808 ≤ z) (h2 : z ≤ 9223372036854775807) : garnerref01_Folded.f z = some ((Rd.fold z : Nat) : Int) := by
  unfold garnerref01_Folded.f Rd.fold
  by_cases h : z < 0
  · rw [if_pos h, if_pos h]
    refine congrArg some ?_
    rw [show wrap64 (z + 1) = z + 1 by unfold wrap64; omega, show wrap64 (-(z + 1)) = -(z + 1) by unfold wrap64; omega]
    simp only [IntKind.wrap_u64]
    omega
  · rw [if_neg h, if_neg h]
    refine congrArg some ?_
    simp only [IntKind.wrap_u64]
    omega
theorem refsigned_form (k : Nat) {z : Int} (hk : 10 ≤ k) (h1 : -9223372036854775808 ≤ z) (h2 : z ≤ 9223372036854775807) : garnerref01_Signed.f k z = some (Rd.wnum (Rd.fold z)) := by
  unfold garnerref01_Signed.f
  rw [reffold_form h1 h2]
  simp only [Option.bind_some]
  rw [refnum_form k _ hk (Rd.fold_lt h1 (by omega))]
  rfl
theorem refflag_form (f : Bool) : garnerref01_Flag.f f = some [Rd.cflag f] := by cases f <;> rfl
theorem spoil1_go : ∀ (d k i : Nat) (x : List Int), i + d = 9 → d < k → x.length + d < 140737488355328 → garnerlaw01_spoil.l1 k x (i : Int) = some ()
  | 0, 0, i, x, _, h, _ => by omega
  | 0, k + 1, i, x, hi, h, hl => by rw [garnerlaw01_spoil.l1, if_neg (by omega)]
  | d + 1, 0, i, x, _, h, _ => by omega
  | d + 1, k + 1, i, x, hi, h, hl => by
    rw [garnerlaw01_spoil.l1, if_pos (by omega), if_pos (by omega), show wrap64 ((i : Int) + 1) = ((i + 1 : Nat) : Int) by unfold wrap64; omega]
    exact spoil1_go d k (i + 1) _ (by omega) (by omega) (by simp; omega)
theorem spoil0_go : ∀ (d k i : Nat) (x : List Int), i + d = x.length → d + 11 < k → x.length < 140737488351000 → garnerlaw01_spoil.l0 k x (i : Int) = some ()
  | 0, 0, i, x, _, h, _ => by omega
  | 0, k + 1, i, x, hi, h, hl => by
    rw [garnerlaw01_spoil.l0, if_neg (by omega)]
    exact spoil1_go 9 k 0 x (by omega) (by omega) (by omega)
  | d + 1, 0, i, x, _, h, _ => by omega
  | d + 1, k + 1, i, x, hi, h, hl => by
    rw [garnerlaw01_spoil.l0, if_pos (by omega), if_pos (by omega), show wrap64 ((i : Int) + 1) = ((i + 1 : Nat) : Int) by unfold wrap64; omega]
    exact spoil0_go d k (i + 1) _ (by simp; omega) (by omega) (by simp; omega)
theorem spoil_form (k : Nat) (x : List Int) (h : x.length + 11 < k) (hl : x.length < 140737488351000) : garnerlaw01_spoil.f k x = some () := spoil0_go x.length k 0 x (by omega) h hl
theorem take_flat {l : List (List Int)} {i : Nat} (h : i < l.length) : (l.take (i + 1)).flatten = (l.take i).flatten ++ l[i] := by
  rw [List.take_succ_eq_append_getElem h, List.flatten_append]
  simp
theorem rd_L1_at {l : List (List Int)} {i : Nat} (h : i < l.length) : rd_L1 l (i : Int) = l[i] := by simp [rd_L1, h]
theorem take_flat_le (l : List (List Int)) (i : Nat) : (l.take i).flatten.length ≤ l.flatten.length := by
  have := congrArg (fun z => (List.flatten z).length) (List.take_append_drop i l)
  simp only [List.flatten_append, List.length_append] at this
  omega
section
variable (N S : Int) (F : Bool) (l : List Int) (ll : List (List Int)) (y t6 t7 t8 t9 : List Int)
theorem first_go (hm : ll.length < 9223372036854775807) (hf : ll.flatten.length < 140737488355328) : ∀ (d i k : Nat), i + d = ll.length → gW.l0 (k + 1 + d) N S F l ll y t6 t7 t8 t9 (ll.take i).flatten (i : Int) = gW.l0 (k + 1) N S F l ll y t6 t7 t8 t9 ll.flatten (ll.length : Int)
  | 0, i, k, h => by
    obtain rfl : i = ll.length := by omega
    rw [List.take_length]
  | d + 1, i, k, h => by
    have hi : i < ll.length := by omega
    have h1 := take_flat hi
    have h2 := take_flat_le ll (i + 1)
    rw [show k + 1 + (d + 1) = (k + 1 + d) + 1 by omega, gW.l0, if_pos (by omega), if_pos (by omega), rd_L1_at hi, if_pos (by rw [← List.length_append, ← h1]; omega), ← h1, show wrap64 ((i : Int) + 1) = ((i + 1 : Nat) : Int) by unfold wrap64; omega]
    exact first_go hm hf d (i + 1) k (by omega)
theorem cut_at {i : Nat} (h : i < ll.length) : (ll.flatten.take (ll.take (i + 1)).flatten.length).drop (ll.take i).flatten.length = ll[i] := by
  have e : ll.flatten = (ll.take (i + 1)).flatten ++ (ll.drop (i + 1)).flatten := by rw [← List.flatten_append, List.take_append_drop]
  rw [e, List.take_left, take_flat h, List.drop_left]
theorem second_go (hm : ll.length < 9223372036854775807) (hf : ll.flatten.length < 140737488355328) : ∀ (d i k : Nat), i + d = ll.length → gW.l1 (k + 1 + d) N l ll y t7 t9 ll.flatten (i : Int) ((ll.take i).flatten.length : Int) = gW.l1 (k + 1) N l ll y t7 t9 ll.flatten (ll.length : Int) (ll.flatten.length : Int)
  | 0, i, k, h => by
    obtain rfl : i = ll.length := by omega
    rw [List.take_length]
  | d + 1, i, k, h => by
    have hi : i < ll.length := by omega
    have h1 := take_flat hi
    have h2 := take_flat_le ll (i + 1)
    have h3 := congrArg List.length h1
    rw [List.length_append] at h3
    have e : wrap64 (((ll.take i).flatten.length : Int) + ((rd_L1 ll (i : Int)).length : Int)) = ((ll.take (i + 1)).flatten.length : Int) := by
      rw [rd_L1_at hi]; unfold wrap64; omega
    rw [show k + 1 + (d + 1) = (k + 1 + d) + 1 by omega, gW.l1, e, if_pos (by omega), if_pos (by omega), if_pos (by omega), if_pos (by omega), if_pos (by omega), Int.toNat_natCast, Int.toNat_natCast, cut_at ll hi, rd_L1_at hi, if_pos rfl, show wrap64 ((i : Int) + 1) = ((i + 1 : Nat) : Int) by unfold wrap64; omega]
    exact second_go hm hf d (i + 1) k (by omega)
end
theorem own_text (l : List Int) : (strOfNums (([] ++ l) ++ [119])).toList = ((strOfNums l) ++ (⟨#[119]⟩ : ByteArray)).toList := by
  have : strOfNums (([] ++ l) ++ [119]) = (strOfNums l) ++ (⟨#[119]⟩ : ByteArray) := by
    apply ByteArray.ext
    simp [strOfNums, ByteArray.data_append]
  rw [this]
theorem last_form (N : Nat) (l : List Int) (ll : List (List Int)) (k : Nat) (hk : 12 ≤ k) (hN : N < 18446744073709551616) (hl : l.length ≤ 1048576) (h3 : ll.length ≤ 1048576) :
    gW.l1 (k + 1) (N : Int) l ll (([] ++ l) ++ [119]) (Rd.wbytes l) (Rd.wnum N) ll.flatten (ll.length : Int) (ll.flatten.length : Int) = some true := by
  rw [gW.l1, if_neg (by omega), refbytes_form k (by omega) (by omega)]
  simp only [Option.bind_some]
  rw [if_pos trivial, refnum_form k N (by omega) hN]
  simp only [Option.bind_some]
  rw [if_pos trivial, if_pos (by rw [strOfNums_size]; omega), if_pos (own_text l)]
  rfl
theorem proved_at (M : Nat) (hM : 3000000 ≤ M) (N : Nat) (S : Int) (F : Bool) (l : List Int) (ll : List (List Int)) (hN : N < 18446744073709551616) (h1 : -9223372036854775808 ≤ S) (h2 : S ≤ 9223372036854775807) (hl : l.length ≤ 1048576) (h3 : ll.length ≤ 1048576) (h4 : ll.flatten.length ≤ 1048576) : gW.f (ll.length + (M + 2) + 1 + ll.length) (N : Int) S F l ll = some true := by
  have q1 := Rd.wnum_len N
  have q2 : (Rd.wbytes l).length ≤ 10 + l.length := by unfold Rd.wbytes; rw [List.length_append]; have := Rd.wnum_len l.length; omega
  unfold gW.f
  rw [if_pos (by simp only [List.length_nil]; omega)]
  rw [Option.bind_some]
  rw [if_pos (by simp only [List.length_append, List.length_nil]; omega), Option.bind_some, if_pos (by omega), if_pos (by simp only [List.length_append, List.length_nil, List.length_cons]; omega)]
  have e : ((([] ++ l) ++ [119] : List Int).take ((l.length : Int)).toNat) = l := by simp
  rw [Option.bind_some, e, bytes_form (by omega)]
  rw [Option.bind_some, Option.bind_some]
  rw [number_form N hN]
  rw [Option.bind_some, Option.bind_some]
  have h := first_go (N : Int) S F l ll (([] ++ l) ++ [119]) (Rd.wbytes l) (Rd.wbytes l) (Rd.wnum N) (Rd.wnum N) (by omega) (by omega) ll.length 0 (ll.length + (M + 2)) (by omega)
  rw [show (ll.take 0).flatten = [] from rfl, show ((0 : Nat) : Int) = 0 from rfl] at h
  refine h.trans ?_
  rw [gW.l0, if_neg (by omega), join_form ll _ (by omega) (by omega) (by omega)]
  rw [Option.bind_some]
  rw [refbytes_form _ (by omega) (by omega)]
  rw [Option.bind_some]
  rw [if_pos rfl, refnum_form _ N (by omega) hN]
  rw [Option.bind_some]
  rw [if_pos rfl, signed_form h1 h2]
  rw [Option.bind_some]
  rw [refsigned_form _ (by omega) h1 h2]
  rw [Option.bind_some]
  rw [if_pos rfl, flag_form]
  rw [Option.bind_some]
  rw [refflag_form]
  rw [Option.bind_some]
  rw [if_pos rfl, show ll.length + (M + 2) = (ll.length + (M + 1)) + 1 by omega, gW.j1, if_neg (by simp), spoil_form _ _ (by omega) (by omega)]
  rw [Option.bind_some]
  rw [spoil_form _ _ (by omega) (by omega)]
  rw [Option.bind_some]
  rw [spoil_form _ _ (by omega) (by omega)]
  rw [Option.bind_some]
  have h' := second_go (N : Int) l ll (([] ++ l) ++ [119]) (Rd.wbytes l) (Rd.wnum N) (by omega) (by omega) ll.length 0 M (by omega)
  rw [show (ll.take 0).flatten.length = 0 from rfl, show ((0 : Nat) : Int) = 0 from rfl] at h'
  rw [show ll.length + (M + 1) = M + 1 + ll.length by omega]
  refine h'.trans ?_
  exact last_form N l ll M (by omega) hN hl h3
theorem proved (N : Nat) (S : Int) (F : Bool) (l : List Int) (ll : List (List Int)) (hN : N < 18446744073709551616) (h1 : -9223372036854775808 ≤ S) (h2 : S ≤ 9223372036854775807) (hl : l.length ≤ 1048576) (h3 : ll.length ≤ 1048576) (h4 : ll.flatten.length ≤ 1048576) : ∃ k, gW.f k (N : Int) S F l ll = some true :=
  ⟨_, proved_at 3000000 (Nat.le_refl _) N S F l ll hN h1 h2 hl h3 h4⟩
end Go.Proofs.Ytmghnbdbhdljjaa.Wq
