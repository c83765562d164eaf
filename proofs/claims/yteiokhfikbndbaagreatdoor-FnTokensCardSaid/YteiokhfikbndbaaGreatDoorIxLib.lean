import Derived.Shelf.Strings.IndexAnyAll
import Derived.Shelf.Strings.Cut
import Derived.Shelf.Small.Utf8
import Derived.Lib.OthersKept
import Derived.Laws.RangeAny
import Derived.Laws.Runes
import Derived.WalkMore
import Derived.Shelf.RegionOpenPlain
import Derived.BigQuiet
namespace Go.Proofs.IX
open Go Go.Shelf Go.RowKit Go.Lib Go.Proofs
set_option linter.unusedVariables false
variable {P : Program} {ρ : Ren}
theorem indexByte_absent : ∀ (l : List UInt8) (c : UInt8), (∀ b ∈ l, b ≠ c) → Lib.indexByte l c = -1
  | [], _, _ => rfl
  | b :: l, c, h => by
    have hb : (b == c) = false := beq_eq_false_iff_ne.2 (h b (by simp))
    have ih := indexByte_absent l c (fun x hx => h x (by simp [hx]))
    rw [Lib.indexByte, hb, ih]
    rfl
theorem below_drewNg (w : World) : ∀ n, Below w.heap.size w (w.drewN n)
  | 0 => Below.refl _ _
  | n + 1 => (below_drewNg w n).drew
theorem enc_ex (R : Int) (hv : Lib.validRune R = true) (h1 : ¬ R < 128) : ∃ (rs : ByteArray) (n : Nat) (h : rs.size = n + 1), Utf8.encode R = rs ∧ 1 ≤ n ∧ n ≤ 3 ∧ 128 ≤ (rs[n]'(by omega)).toNat := by
  obtain ⟨a, b, c⟩ := encode_facts R ((validRune_eq R).trans hv) (by omega)
  refine ⟨Utf8.encode R, (Utf8.encode R).size - 1, by omega, rfl, by omega, by omega, c (by omega)⟩
set_option maxHeartbeats 600000 in
set_option maxRecDepth 1000000 in
theorem IndexRune_valid (L : Lays.n152 P ρ) (s : ByteArray) (R : Int) (w : World) (h0 : 0 ≤ R) (h1 : ¬ R < 128) (h2 : (R == 65533) = false) (hv : Lib.validRune R = true) (hsz : s.size ≤ 1048576) (hascii : ∀ (j : Nat) (h : j < s.size), (s[j]'h).toNat < 128) :
    Calls P (ρ.f 152) #[.string s, .int .i32 R] w fun e w' => e = .returned (.int .i64 (-1)) ∧ Below w.heap.size w w' := by
  have HA : Aside (∀ (j : Nat) (h : j < s.size), (s[j]'h).toNat < 128) := hascii
  clear hascii
  have hV := Any.utf8_ValidRune (P := P) (ρ := ρ) { L with } R w
  rw [hv] at hV
  obtain ⟨rs, n, hn, hrs, n1, n2, hbn⟩ := enc_ex R hv h1
  have mixed := L.mixed
  have t0 := L.t0; have a0 := L.a0; have z0 := L.z0; have v0 := L.v0
  have t3 := L.t3; have a3 := L.a3; have z3 := L.z3; have v3 := L.v3
  have t4 := L.t4; have a4 := L.a4; have z4 := L.z4; have v4 := L.v4
  have t5 := L.t5; have a5 := L.a5; have z5 := L.z5; have v5 := L.v5
  have t9 := L.t9; have a9 := L.a9; have z9 := L.z9; have v9 := L.v9
  have t21 := L.t21; have a21 := L.a21; have z21 := L.z21; have v21 := L.v21
  have e137 : ∀ args w, (callFunc (ρ.f 137) args).run P w = .ok (.enter (ρ.f 137) args) w := enters_of L.f137 (by kernel_rfl) rfl
  have e119 : ∀ args w, (callFunc (ρ.f 119) args).run P w = .ok (.enter (ρ.f 119) args) w := enters_of L.f119 (by kernel_rfl) rfl
  have hcv : ∀ W, (convert (ρ.t 21) (ρ.t 9) (.int .i32 R)).run P W = .ok (.string rs) W := fun W => by rw [← hrs]; exact run_convert_int_string W _ _ _ _ (by rw [t21]; rfl) t9
  clear hrs
  go_enter L.f152, Body.n152_ntmps ρ
  go_wp2_with (go_at_fn (ρ.f 119); refine hV.mono ?_; rintro e w' ⟨rfl, hw⟩; rw [hw])
  go_step3
  go_wp2
  go_loopg [9] 1 (fun g s9 wx => s9 = .int .i64 (n : Int) ∧ wx = w)
  case atStart => exact ⟨rfl, rfl⟩
  case round =>
    obtain ⟨rfl, rfl⟩ := hrel
    have hnr : n < rs.size := by omega
    have hbn' : 128 ≤ (rs[n]'hnr).toNat := hbn
    clear hbn hn
    by_cases hl : n < s.size
    · have hlz : (n : Int) < (s.size : Int) := by omega
      obtain ⟨x, hx⟩ : ∃ x : UInt8, s[n]'hl = x := ⟨_, rfl⟩
      have hx128 : x.toNat < 128 := hx ▸ HA.out n hl
      have hnz : (n : Int) < (rs.size : Int) := by omega
      obtain ⟨y, hy⟩ : ∃ y : UInt8, rs[n]'hnr = y := ⟨_, rfl⟩
      have hy128 : 128 ≤ y.toNat := hy ▸ hbn'
      have hxy : ((x.toNat : Int) == (y.toNat : Int)) = false := beq_eq_false_iff_ne.2 (by omega)
      have hsl : ∀ W, (Instr.slice (ρ.t 9) (.string s) (some (.int .i64 ((n : Int) + 1))) none none).run P W = .ok (.string (s.extract (n + 1) s.size)) W := fun W => by
        rw [run_slice_string_from_if (t := ρ.t 9) (h := L.t9), if_pos (by omega)]
        rfl
      have hw1 : IntKind.i64.wrap ((n : Int) + 1) = (n : Int) + 1 := wrap_small _ (by omega) (by omega)
      have hbk : 0 ≤ (n : Int) + 1 ∧ (n : Int) + 1 ≤ (s.size : Int) := by omega
      have hnn : ((n : Int) + 1).toNat = n + 1 := by omega
      have hback : ((y.toNat : Int)).toNat.toUInt8 = y := by simp
      have hno : Lib.indexByte (s.extract (n + 1) s.size).data.toList y = -1 := indexByte_absent _ _ (fun b hb hbc => by
        have := mem_extract hb
        obtain ⟨j, hj, hjb⟩ := List.getElem_of_mem this
        have h := HA.out j (by rw [Lib.size_eq]; exact hj)
        have e : s[j]'(by rw [Lib.size_eq]; exact hj) = b := hjb
        rw [e, hbc] at h
        omega)
      have hIB : ∀ W, Calls P (ρ.f 137) #[.string (s.extract (n + 1) s.size), .int .u8 (y.toNat : Int)] W fun e w' => e = .returned (.int .i64 (-1)) ∧ w' = W := fun W => by
        have := Any.strings_IndexByte (P := P) (ρ := ρ) { L with } (s.extract (n + 1) s.size) (y.toNat : Int) W
        rwa [hback, hno] at this
      clear hbn' hno hback
      go_wp2
      go_step3
      go_wp2
      go_quiet_o (fail)
      go_wp2
      go_quiet_o ((go_at_fn (ρ.f 137); refine (hIB _).mono ?_; rintro e2 w2 ⟨rfl, rfl⟩; exact ⟨rfl, _, rfl⟩))
      go_wp2
      rw [Exit.noGoto_ret]
      go_wp2
      rw [Exit.noGoto_ret]
      go_wp2
      go_ret
      exact ⟨rfl, below_drewNg _ _⟩
    · have hlz : ¬ (n : Int) < (s.size : Int) := by omega
      go_wp2
      go_ret
      exact ⟨rfl, Below.refl _ _⟩

set_option maxHeartbeats 2000000 in
set_option maxRecDepth 1000000 in
theorem IndexRune_err (L : Lays.n152 P ρ) (s : ByteArray) (R : Int) (w : World) (h0 : 0 ≤ R) (h1 : ¬ R < 128) (h2 : (R == 65533) = true) (hascii : ∀ (j : Nat) (h : j < s.size), (s[j]'h).toNat < 128) :
    Calls P (ρ.f 152) #[.string s, .int .i32 R] w fun e w' => e = .returned (.int .i64 (-1)) ∧ Below w.heap.size w w' := by
  have HA : Aside (∀ (j : Nat) (h : j < s.size), (s[j]'h).toNat < 128) := hascii
  clear hascii
  have mixed := L.mixed
  have t0 := L.t0; have a0 := L.a0; have z0 := L.z0; have v0 := L.v0
  have t3 := L.t3; have a3 := L.a3; have z3 := L.z3; have v3 := L.v3
  have t4 := L.t4; have a4 := L.a4; have z4 := L.z4; have v4 := L.v4
  have t9 := L.t9; have a9 := L.a9; have z9 := L.z9; have v9 := L.v9
  have t21 := L.t21; have a21 := L.a21; have z21 := L.z21; have v21 := L.v21
  go_enter L.f152, Body.n152_ntmps ρ
  go_wp2
  go_loopg [] s.size (fun gf wx => ∃ pos : Nat, wx.heap[w.heap.size]? = some (.stringIter s pos) ∧ Below w.heap.size w wx ∧ s.size ≤ pos + gf)
  case atStart => exact ⟨0, World.iter_heap w s 0, (Below.refl _ w).alloc (Nat.le_refl _) _, by omega⟩
  case round =>
    obtain ⟨pos, hit, hbw, hfu⟩ := hrel
    by_cases hps : pos < s.size
    · obtain ⟨g', rfl⟩ : ∃ g', gk = g' + 1 := ⟨gk - 1, by omega⟩
      have h128 := HA.out pos hps
      have hnx : ∀ ty, (Instr.next (.pointer (some ⟨w.heap.size, 0, none⟩)) true ty).run P wr = _ := fun ty => Lib.run_next_ascii_at wr w.heap.size s pos ty hit hps h128
      obtain ⟨x, hR⟩ : ∃ x, (s[pos]'hps).toNat = x := ⟨_, rfl⟩
      rw [hR] at hnx h128
      have hit2 := Lib.iterAt_heap wr w.heap.size s pos (pos + 1) hit
      have hbw2 := Lib.below_iterAt hbw (k := w.heap.size) (Nat.le_refl _) s (pos + 1)
      obtain ⟨W, hWd⟩ : ∃ W, wr.iterAt w.heap.size s (pos + 1) = W := ⟨_, rfl⟩
      rw [hWd] at hnx hit2 hbw2
      have hne : ((x : Int) == 65533) = false := beq_eq_false_iff_ne.2 (by omega)
      go_wp2
      go_roundg g'
      case measure => omega
      case rel => exact ⟨pos + 1, hit2, hbw2, by omega⟩
    · have hnx : ∀ ty, (Instr.next (.pointer (some ⟨w.heap.size, 0, none⟩)) true ty).run P wr = _ := fun ty => Lib.run_next_end_at wr w.heap.size s pos ty hit hps
      go_wp2
      go_ret
      exact ⟨rfl, hbw⟩
set_option maxHeartbeats 2000000 in
set_option maxRecDepth 1000000 in
theorem IndexRune_bad (L : Lays.n152 P ρ) (s : ByteArray) (R : Int) (w : World) (h0 : 0 ≤ R) (h1 : ¬ R < 128) (h2 : (R == 65533) = false) (hv : Lib.validRune R = false) :
    Calls P (ρ.f 152) #[.string s, .int .i32 R] w fun e w' => e = .returned (.int .i64 (-1)) ∧ Below w.heap.size w w' := by
  have hV := Any.utf8_ValidRune (P := P) (ρ := ρ) { L with } R w
  rw [hv] at hV
  have mixed := L.mixed
  have t0 := L.t0; have a0 := L.a0; have z0 := L.z0; have v0 := L.v0
  have t3 := L.t3; have a3 := L.a3; have z3 := L.z3; have v3 := L.v3
  have t4 := L.t4; have a4 := L.a4; have z4 := L.z4; have v4 := L.v4
  have t21 := L.t21; have a21 := L.a21; have z21 := L.z21; have v21 := L.v21
  have e119 : ∀ args w, (callFunc (ρ.f 119) args).run P w = .ok (.enter (ρ.f 119) args) w := enters_of L.f119 (by kernel_rfl) rfl
  go_enter L.f152, Body.n152_ntmps ρ
  go_wp2_with (go_at_fn (ρ.f 119); refine hV.mono ?_; rintro e w' ⟨rfl, hw⟩; rw [hw])
  go_ret
  exact ⟨rfl, Below.refl _ _⟩
theorem IndexRune_high (L : Lays.n152 P ρ) (s : ByteArray) (R : Int) (w : World) (h1 : 128 ≤ R) (hsz : s.size ≤ 1048576) (hascii : ∀ (j : Nat) (h : j < s.size), (s[j]'h).toNat < 128) :
    Calls P (ρ.f 152) #[.string s, .int .i32 R] w fun e w' => e = .returned (.int .i64 (-1)) ∧ Below w.heap.size w w' := by
  cases h2 : (R == 65533)
  · cases hv : Lib.validRune R
    · exact IndexRune_bad L s R w (by omega) (by omega) h2 hv
    · exact IndexRune_valid L s R w (by omega) (by omega) h2 hv hsz hascii
  · exact IndexRune_err L s R w (by omega) (by omega) h2 hascii
theorem dec_bytes (s : ByteArray) (pos : Nat) (ha : 128 ≤ (s.get! (pos + 0)).toNat) (k : Nat) (hk : k < (Utf8.decode s pos).2) : 128 ≤ (s.get! (pos + k)).toNat := by
  have hn : ¬ (s.get! (pos + 0)).toNat < 128 := by omega
  unfold Utf8.decode at hk
  simp only [hn, if_false] at hk
  repeat' split at hk
  all_goals simp only [Bool.and_eq_true, decide_eq_true_eq, beq_iff_eq] at *
  all_goals (have hk' : k = 0 ∨ k = 1 ∨ k = 2 ∨ k = 3 := by omega)
  all_goals (rcases hk' with rfl | rfl | rfl | rfl <;> omega)
theorem noAny_high (s chars : ByteArray) (hac : ∀ (j : Nat) (h : j < chars.size), (chars[j]'h).toNat < 128) (pos : Nat) (hp : pos < s.size) (ha : 128 ≤ (s[pos]'hp).toNat) (h : Lib.NoAny s.data.toList chars.data.toList pos) : Lib.NoAny s.data.toList chars.data.toList (pos + (Utf8.decode s pos).2) := by
  intro j b hj hb
  by_cases c : j < pos
  · exact h j b c hb
  · have hjl : j < s.size := by
      have := (List.getElem?_eq_some_iff.1 hb).1
      rwa [← Lib.size_eq] at this
    have e : s.get! (pos + (j - pos)) = b := by
      rw [show pos + (j - pos) = j from by omega]
      have h1 := Lib.data_getElem? s j hjl
      rw [h1] at hb
      have h2 := get_at s j hjl
      rw [Nat.add_zero] at h2
      rw [h2]
      exact Option.some.inj hb
    have hb128 := dec_bytes s pos (by rw [get_at s pos hp]; exact ha) (j - pos) (by omega)
    rw [e] at hb128
    cases hc : chars.data.toList.contains b
    · rfl
    · exfalso
      obtain ⟨i, hi, hib⟩ := List.getElem_of_mem (List.contains_iff_mem.1 hc)
      have := hac i (by rw [Lib.size_eq]; exact hi)
      have e2 : chars[i]'(by rw [Lib.size_eq]; exact hi) = b := hib
      rw [e2] at this
      omega
set_option maxHeartbeats 8000000 in
set_option maxRecDepth 1000000 in
theorem IndexAny_short (L : Lays.n153 P ρ) (s chars : ByteArray) (w : World) (h2 : 2 ≤ chars.size) (hcs : chars.size ≤ 1048576) (h8 : s.size ≤ 8) (hac : ∀ (j : Nat) (h : j < chars.size), (chars[j]'h).toNat < 128) :
    Calls P (ρ.f 153) #[.string s, .string chars] w fun e w' => e = .returned (.int .i64 (Lib.indexAny s.data.toList chars.data.toList)) ∧ Below w.heap.size w w' := by
  have HA : Aside (∀ (j : Nat) (h : j < chars.size), (chars[j]'h).toNat < 128) := hac
  clear hac
  have hemp : chars.toList.isEmpty = false := by
    rw [Lib.toList_data]
    cases h : chars.data.toList with
    | nil => have := Lib.size_eq chars; rw [h, List.length_nil] at this; omega
    | cons _ _ => rfl
  have hn1 : ((chars.size : Int) == 1) = false := beq_eq_false_iff_ne.2 (by omega)
  have h8z : decide ((8 : Int) < (s.size : Int)) = false := decide_eq_false (by omega)
  have mixed := L.mixed
  have t3 := L.t3; have a3 := L.a3; have z3 := L.z3; have v3 := L.v3
  have t4 := L.t4; have a4 := L.a4; have z4 := L.z4; have v4 := L.v4
  have t5 := L.t5; have a5 := L.a5; have z5 := L.z5; have v5 := L.v5
  have t9 := L.t9; have a9 := L.a9; have z9 := L.z9; have v9 := L.v9
  have t21 := L.t21; have a21 := L.a21; have z21 := L.z21; have v21 := L.v21
  have e152 : ∀ args w, (callFunc (ρ.f 152) args).run P w = .ok (.enter (ρ.f 152) args) w := enters_of L.f152 (by kernel_rfl) rfl
  have e226 : ∀ args w, (callFunc (ρ.f 226) args).run P w = .ok (.enter (ρ.f 226) args) w := enters_of L.f226 (by kernel_rfl) rfl
  go_enter L.f153, Body.n153_ntmps ρ
  go_wp2_with (go_at_fn (ρ.f 226); refine (Any.strings_shouldUseASCIISet { L with } _ _).mono ?_; rintro e w' ⟨rfl, hw⟩; rw [hw, h8z])
  go_loopg [9, 10] s.size (fun g _ _ wx => ∃ pos : Nat, wx.heap[w.heap.size]? = some (.stringIter s pos) ∧ Below w.heap.size w wx ∧ Lib.NoAny s.data.toList chars.data.toList pos ∧ s.size ≤ pos + g)
  case atStart => exact ⟨0, World.iter_heap w s 0, (Below.refl _ w).alloc (Nat.le_refl _) _, Lib.NoAny.zero _ _, by omega⟩
  case round =>
    obtain ⟨pos, hit, hbw, hno, hfu⟩ := hrel
    have HN : Aside (Lib.NoAny s.data.toList chars.data.toList pos) := hno
    clear hno
    by_cases hps : pos < s.size
    · obtain ⟨g', rfl⟩ : ∃ g', gk = g' + 1 := ⟨gk - 1, by omega⟩
      by_cases h128 : (s[pos]'hps).toNat < 128
      · have hnx : ∀ ty, (Instr.next (.pointer (some ⟨w.heap.size, 0, none⟩)) true ty).run P wr = _ := fun ty => Lib.run_next_ascii_at wr w.heap.size s pos ty hit hps h128
        obtain ⟨x, hx⟩ : ∃ x : UInt8, s[pos]'hps = x := ⟨_, rfl⟩
        have hxl : s.data.toList[pos]? = some x := by rw [← hx]; exact Lib.data_getElem? s pos hps
        rw [hx] at hnx h128
        have hit2 := Lib.iterAt_heap wr w.heap.size s pos (pos + 1) hit
        have hbw2 := Lib.below_iterAt hbw (k := w.heap.size) (Nat.le_refl _) s (pos + 1)
        obtain ⟨W, hWd⟩ : ∃ W, wr.iterAt w.heap.size s (pos + 1) = W := ⟨_, rfl⟩
        rw [hWd] at hnx hit2 hbw2
        have Hx : Aside (s.data.toList[pos]? = some x) := hxl
        clear hxl hx
        have hcon := Lib.contains_iff_indexByte chars.data.toList x
        have hback : ((x.toNat : Int)).toNat.toUInt8 = x := by simp
        cases hin : chars.data.toList.contains x
        · rw [hin] at hcon
          have hlt : ¬ ((0 : Int) ≤ Lib.indexByte chars.data.toList x) := of_decide_eq_false hcon.symm
          clear hcon
          go_wp2_with (go_at_fn (ρ.f 152); refine (Any.strings_IndexRune_ascii { L with } _ _ _ (by omega) (by omega)).mono ?_; rintro e w' ⟨rfl, hw⟩; rw [hw, hback])
          go_roundg g'
          case measure => omega
          case rel => exact ⟨pos + 1, hit2, hbw2, HN.out.succ Hx.out hin, by omega⟩
        · rw [hin] at hcon
          have hge : (0 : Int) ≤ Lib.indexByte chars.data.toList x := of_decide_eq_true hcon.symm
          clear hcon
          go_wp2_with (go_at_fn (ρ.f 152); refine (Any.strings_IndexRune_ascii { L with } _ _ _ (by omega) (by omega)).mono ?_; rintro e w' ⟨rfl, hw⟩; rw [hw, hback])
          go_ret
          exact ⟨by rw [Lib.indexAny_hit HN.out Hx.out hin]; rfl, hbw2⟩
      · have hnx : ∀ ty, (Instr.next (.pointer (some ⟨w.heap.size, 0, none⟩)) true ty).run P wr = _ := fun ty => Lib.run_next_any_at wr w.heap.size s pos ty hit hps
        obtain ⟨hd1, hd2⟩ := decode_high s pos hps (by omega)
        have HN2 : Aside (Lib.NoAny s.data.toList chars.data.toList (pos + (Utf8.decode s pos).2)) := noAny_high s chars HA.out pos hps (by omega) HN.out
        obtain ⟨R, hR⟩ : ∃ R, (Utf8.decode s pos).1 = R := ⟨_, rfl⟩
        obtain ⟨K, hK⟩ : ∃ K, (Utf8.decode s pos).2 = K := ⟨_, rfl⟩
        rw [hR, hK] at hnx
        rw [hR] at hd1
        rw [hK] at hd2 HN2
        have hit2 := Lib.iterAt_heap wr w.heap.size s pos (pos + K) hit
        have hbw2 := Lib.below_iterAt hbw (k := w.heap.size) (Nat.le_refl _) s (pos + K)
        obtain ⟨W, hWd⟩ : ∃ W, wr.iterAt w.heap.size s (pos + K) = W := ⟨_, rfl⟩
        rw [hWd] at hnx hit2 hbw2
        have hltW : w.heap.size < W.heap.size := (Array.getElem?_eq_some_iff.1 hit2).1
        have cH := IndexRune_high (P := P) (ρ := ρ) { L with } chars (R : Int) W (by omega) hcs HA.out
        go_wp2_with (go_at_fn (ρ.f 152); refine cH.mono ?_; rintro e W' ⟨rfl, hbc⟩)
        go_roundg g'
        case measure => omega
        case rel => exact ⟨pos + K, (hbc.block _ hltW).trans hit2, (hbw2.trans (hbc.mono hbw2.size)), HN2.out, by omega⟩
    · have hnx : ∀ ty, (Instr.next (.pointer (some ⟨w.heap.size, 0, none⟩)) true ty).run P wr = _ := fun ty => Lib.run_next_end_at wr w.heap.size s pos ty hit hps
      have HE : Aside (Lib.indexAny s.data.toList chars.data.toList = -1) := Lib.indexAny_none (fun j b hj hb => HN.out j b (by rw [← Lib.size_eq] at hj; omega) hb)
      go_wp2
      go_ret
      exact ⟨by rw [HE.out]; rfl, hbw⟩
theorem IndexAny_all (L : Lays.n153 P ρ) (hv116 : ∀ w, (zeroValue (ρ.t 116)).run P w = .ok (.agg (Array.replicate 256 (.bool false))) w) (hi116 : (P.info? (ρ.t 116)).map (·.size) = some 256) (s chars : ByteArray) (w : World) (h2 : 2 ≤ chars.size) (hcs : chars.size ≤ 1048576) (hs : s.size < 4294967281) (hac : ∀ (j : Nat) (h : j < chars.size), (chars[j]'h).toNat < 128) :
    Calls P (ρ.f 153) #[.string s, .string chars] w fun e w' => e = .returned (.int .i64 (Lib.indexAny s.data.toList chars.data.toList)) ∧ Below w.heap.size w w' := by
  by_cases h8 : s.size ≤ 8
  · exact IndexAny_short L s chars w h2 hcs h8 hac
  · refine (Any.strings_IndexAny_long L hv116 hi116 s chars w h2 (by omega) hs (by omega) (fun j b hb => ?_)).mono fun e w' ⟨h1, h2⟩ => ⟨h1, ?_⟩
    · have hj : j < chars.size := by
        have := (List.getElem?_eq_some_iff.1 hb).1
        rwa [← Lib.size_eq] at this
      have := hac j hj
      rw [Lib.data_getElem? chars j hj] at hb
      rw [Option.some.inj hb] at this
      exact this
    · rw [h2]
      exact ((Below.refl _ _).alloc (Nat.le_refl _) _).alloc (by simp) _
theorem IndexAny_laid (L : Lays.n153 P ρ) (h116 : (P.info? (ρ.t 116)).map (fun i => (i.zero, i.size)) = some (some (.agg (Array.replicate 256 (.bool false))), 256)) (s chars : ByteArray) (w : World) (h2 : 2 ≤ chars.size) (hcs : chars.size ≤ 1048576) (hs : s.size < 4294967281) (hac : ∀ (j : Nat) (h : j < chars.size), (chars[j]'h).toNat < 128) :
    Calls P (ρ.f 153) #[.string s, .string chars] w fun e w' => e = .returned (.int .i64 (Lib.indexAny s.data.toList chars.data.toList)) ∧ Below w.heap.size w w' :=
  IndexAny_all L (zero_of_info h116).1 (zero_of_info h116).2 s chars w h2 hcs hs hac
set_option maxHeartbeats 2000000 in
set_option maxRecDepth 100000 in
theorem slCut_one (L : Lays.n220 P ρ) (s : ByteArray) (c : UInt8) (w : World) (hs : s.size < 4294967281) :
    Calls P (ρ.f 220) #[.string s, .string ⟨#[c]⟩] w fun e w' => e = .returned (.tuple #[.string ⟨(Lib.cut s.data.toList [c]).1.toArray⟩, .string ⟨(Lib.cut s.data.toList [c]).2.1.toArray⟩, .bool (Lib.cut s.data.toList [c]).2.2]) ∧ ∃ n, w' = w.drewN n := by
  have ho : Lib.index s.data.toList [c] = Lib.indexByte s.data.toList c := by
    have e := Lib.one s ⟨#[c]⟩ rfl
    have hc : ((((⟨#[c]⟩ : ByteArray)[0]'(show 0 < 1 from Nat.one_pos)).toNat : Int).toNat.toUInt8) = c := by
      show ((c.toNat : Int).toNat.toUInt8) = c
      simp
    exact e.trans (congrArg (Lib.indexByte s.data.toList) hc)
  rcases Lib.indexB_cases s ⟨#[c]⟩ with hix | ⟨i, hix, hroom⟩
  · obtain ⟨e1, e2, e3⟩ := Lib.cutB_miss s ⟨#[c]⟩ hix
    rw [show (⟨(Lib.cut s.data.toList [c]).1.toArray⟩ : ByteArray) = _ from e1, show (⟨(Lib.cut s.data.toList [c]).2.1.toArray⟩ : ByteArray) = _ from e2, show (Lib.cut s.data.toList [c]).2.2 = _ from e3]
    have t3 := L.t3; have t4 := L.t4; have t9 := L.t9
    have a3 : ∀ w, (isAgg (ρ.t 3)).run P w = .ok false w := run_isAgg_plain L.t3 rfl; have a4 : ∀ w, (isAgg (ρ.t 4)).run P w = .ok false w := run_isAgg_plain L.t4 rfl; have a9 : ∀ w, (isAgg (ρ.t 9)).run P w = .ok false w := run_isAgg_plain L.t9 rfl
    have e219 : ∀ args w, (callFunc (ρ.f 219) args).run P w = .ok (.enter (ρ.f 219) args) w := enters_of L.f219 (by kernel_rfl) rfl
    have mixed := L.mixed; have z3 := L.z3; have v3 := L.v3; have z4 := L.z4; have v4 := L.v4; have z9 := L.z9; have v9 := L.v9
    go_enter L.f220, Body.n220_ntmps ρ
    go_wp2_with (go_at_fn (ρ.f 219); refine (Any.stringslite_Index_one { L with } _ _ _).mono ?_; rintro e w' ⟨rfl, rfl⟩; rw [← ho, show Lib.index s.data.toList [c] = _ from hix])
    go_ret3
    exact ⟨rfl, 0, rfl⟩
  · obtain ⟨e1, e2, e3⟩ := Lib.cutB_hit s ⟨#[c]⟩ i hix
    rw [show (⟨(Lib.cut s.data.toList [c]).1.toArray⟩ : ByteArray) = _ from e1, show (⟨(Lib.cut s.data.toList [c]).2.1.toArray⟩ : ByteArray) = _ from e2, show (Lib.cut s.data.toList [c]).2.2 = _ from e3]
    have hz : (⟨#[c]⟩ : ByteArray).size = 1 := rfl
    rw [hz] at hroom
    have c1 : (0 : Int) ≤ ↑i := by omega
    have c2 : (↑i : Int) ≤ ↑s.size := by omega
    have c3 : (0 : Int) ≤ ↑i + 1 := by omega
    have c4 : (↑i + 1 : Int) ≤ ↑s.size := by omega
    have t3 := L.t3; have t4 := L.t4; have t9 := L.t9
    have a3 : ∀ w, (isAgg (ρ.t 3)).run P w = .ok false w := run_isAgg_plain L.t3 rfl; have a4 : ∀ w, (isAgg (ρ.t 4)).run P w = .ok false w := run_isAgg_plain L.t4 rfl; have a9 : ∀ w, (isAgg (ρ.t 9)).run P w = .ok false w := run_isAgg_plain L.t9 rfl
    have e219 : ∀ args w, (callFunc (ρ.f 219) args).run P w = .ok (.enter (ρ.f 219) args) w := enters_of L.f219 (by kernel_rfl) rfl
    have mixed := L.mixed; have z3 := L.z3; have v3 := L.v3; have z4 := L.z4; have v4 := L.v4; have z9 := L.z9; have v9 := L.v9
    go_enter L.f220, Body.n220_ntmps ρ
    go_wp2_with (go_at_fn (ρ.f 219); refine (Any.stringslite_Index_one { L with } _ _ _).mono ?_; rintro e w' ⟨rfl, rfl⟩; rw [← ho, show Lib.index s.data.toList [c] = _ from hix])
    go_region_o
    go_wp2
    go_ret3
    exact ⟨rfl, 1, rfl⟩
theorem one_byte (a : ByteArray) (h : a.size = 1) : ∃ c, a = ⟨#[c]⟩ := by
  obtain ⟨⟨l⟩⟩ := a
  match l, h with
  | [c], _ => exact ⟨c, rfl⟩
set_option maxHeartbeats 1000000 in
theorem Cut_one (L : Lays.n145 P ρ) (s sep : ByteArray) (w : World) (h1 : sep.size = 1) (hs : s.size < 4294967281) :
    Calls P (ρ.f 145) #[.string s, .string sep] w fun e w' => e = .returned (.tuple #[.string ⟨(Lib.cut s.data.toList sep.data.toList).1.toArray⟩, .string ⟨(Lib.cut s.data.toList sep.data.toList).2.1.toArray⟩, .bool (Lib.cut s.data.toList sep.data.toList).2.2]) ∧ ∃ n, w' = w.drewN n := by
  obtain ⟨c, rfl⟩ := one_byte sep h1
  have t4 := L.t4; have t9 := L.t9; have t59 := L.t59
  have a4 : ∀ w, (isAgg (ρ.t 4)).run P w = .ok false w := run_isAgg_plain L.t4 rfl; have a9 : ∀ w, (isAgg (ρ.t 9)).run P w = .ok false w := run_isAgg_plain L.t9 rfl; have a59 : ∀ w, (isAgg (ρ.t 59)).run P w = .ok false w := run_isAgg_plain L.t59 rfl
  have e220 : ∀ args w, (callFunc (ρ.f 220) args).run P w = .ok (.enter (ρ.f 220) args) w := enters_of L.f220 (by kernel_rfl) rfl
  have mixed := L.mixed; have z4 := L.z4; have v4 := L.v4; have z9 := L.z9; have v9 := L.v9; have z59 := L.z59; have v59 := L.v59
  go_enter L.f145, Body.n145_ntmps ρ
  go_wp2_with (go_at_fn (ρ.f 220); refine (slCut_one { L with } _ _ _ hs).mono ?_; rintro e w' ⟨rfl, n, rfl⟩)
  go_ret3
  exact ⟨rfl, n, rfl⟩
end Go.Proofs.IX
