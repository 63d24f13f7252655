import Derived.Test.YtdonnbfojcggmaaGreatClone
namespace Go.Proofs.YtdonnbfojcggmaaGreat
open Go.RowKit
attribute [local go_sem ↓] Go.wp_at_zero Go.wp_at_succ

/-- How many bytes strings have. -/
def sumS : List ByteArray → Int
  | [] => 0
  | s :: l => (s.size : Int) + sumS l
theorem sumS_nonneg : ∀ l, 0 ≤ sumS l
  | [] => Int.le_refl _
  | s :: l => by unfold sumS; have := sumS_nonneg l; omega
theorem sumS_append : ∀ (a b : List ByteArray), sumS (a ++ b) = sumS a + sumS b
  | [], b => by simp [sumS]
  | s :: a, b => by simp only [List.cons_append, sumS, sumS_append a b]; omega
theorem sumS_take (l : List ByteArray) (k : Nat) (h : k < l.length) : sumS (l.take (k + 1)) = sumS (l.take k) + (l[k].size : Int) := by
  rw [List.take_add_one, List.getElem?_eq_getElem h, sumS_append]
  simp [sumS]
theorem sumS_take_le (l : List ByteArray) (k : Nat) : sumS (l.take k) ≤ sumS l := by
  have h := sumS_append (l.take k) (l.drop k)
  rw [List.take_append_drop] at h
  have := sumS_nonneg (l.drop k)
  omega
theorem sumS_drop (l : List ByteArray) (k : Nat) : sumS (l.drop k) = sumS l - sumS (l.take k) := by
  have h := sumS_append (l.take k) (l.drop k)
  rw [List.take_append_drop] at h
  omega
theorem sumS_len : ∀ (l : List ByteArray), (∀ s ∈ l, 0 < s.size) → (l.length : Int) ≤ sumS l
  | [], _ => Int.le_refl _
  | s :: l, h => by
    have h1 := sumS_len l fun x hx => h x (List.mem_cons_of_mem _ hx)
    have h2 := h s (List.mem_cons_self)
    simp only [List.length_cons, sumS]
    omega
theorem size_ne {x : ByteArray} (h : 0 < x.size) : x.toList.isEmpty = false := by
  rw [ByteArray.toList_eq]
  obtain ⟨⟨l⟩⟩ := x
  cases l with
  | nil => exact absurd h (by decide)
  | cons _ _ => rfl
/-- A queue of what waits to go out, in order. -/
structure OutOk (w : World) (A : Option Addr) (n cap : Nat) (l : List ByteArray) (made gone : Int) : Prop where
  row : RowS w A n cap l
  pos : ∀ s ∈ l, 0 < s.size
  sum : made - gone = sumS l
  gone0 : 0 ≤ gone
  made0 : made ≤ 60000
theorem OutOk.lo {w w' : World} {A : Option Addr} {n cap : Nat} {l : List ByteArray} {made gone : Int} (h : OutOk w A n cap l made gone) (hb : Below w.heap.size w w') : OutOk w' A n cap l made gone := ⟨h.row.lo hb, h.pos, h.sum, h.gone0, h.made0⟩
theorem OutOk.kept {w w' : World} {A : Option Addr} {n cap : Nat} {l : List ByteArray} {made gone : Int} {g : Nat} {cs : Array Value} (h : OutOk w A n cap l made gone) (hk : Kept w w' g) (hg : Blk w g 89 cs) : OutOk w' A n cap l made gone := ⟨h.row.kept hk hg (by decide), h.pos, h.sum, h.gone0, h.made0⟩
theorem OutOk.nums {w : World} {A : Option Addr} {n cap : Nat} {l : List ByteArray} {made gone : Int} (h : OutOk w A n cap l made gone) : l.length = n ∧ n ≤ 60000 ∧ 0 ≤ sumS l ∧ sumS l ≤ 60000 ∧ 0 ≤ made ∧ gone ≤ 60000 := by
  have h1 := sumS_nonneg l
  have h2 := sumS_len l h.pos
  have h3 := h.sum
  have h4 := h.gone0
  have h5 := h.made0
  have h6 := h.row.len
  refine ⟨h6, ?_, ?_, ?_, ?_, ?_⟩ <;> omega
set_option maxRecDepth 100000 in
set_option maxHeartbeats 1600000 in
theorem olen_any (A : Option Addr) (n cap : Nat) (l : List ByteArray) (made gone : Int) (w : World) (h : OutOk w A n cap l made gone) : Calls Tryz.prog 105 #[.agg #[.slice A n cap, .int .i64 made, .int .i64 gone]] w (IntPost w (sumS l)) := by
  obtain ⟨hln, hn6, h0, h1, _, _⟩ := h.nums
  have HR := Lib.hid h.row
  have hA := Blk.new w 45 #[.slice A n cap, .int .i64 made, .int .i64 gone]
  have hL := lo_alloc (lo_refl w) (.cells #[.slice A n cap, .int .i64 made, .int .i64 gone] 45)
  have hlm : (n : Int) ≤ 60000 := by omega
  clear h
  obtain ⟨cA, fA⟩ := hA.facts
  go_enter Tryz.func105, Tryz.ntmps105
  go_wp2_with fail
  clear cA fA hA
  go_loopw [3, 5, 9] (fun s _ y wr => ∃ k : Nat, k ≤ n ∧ y = .int .i64 k ∧ s = .int .i64 (sumS (l.take k)) ∧ Below w.heap.size w wr) (fun _ _ y _ => n - (intOf y).toNat)
  case atStart => exact ⟨0, by omega, rfl, rfl, hL⟩
  case round =>
  clear hL
  obtain ⟨k, hk, rfl, rfl, hL⟩ := hrel
  by_cases hkl : k < n
  · have hkl' : (k : Int) < (n : Int) := by omega
    obtain ⟨b, off, rfl, hlt, hc⟩ := (HR.out.lo hL).at (i := k) (x := l[k]) (List.getElem?_eq_getElem (by omega))
    have hc0 := hc 0 _ rfl
    simp only [Nat.add_zero, Nat.mul_one] at hc0
    have hs := sumS_take l k (by omega)
    have hbd := sumS_take_le l (k + 1)
    have hnn := sumS_nonneg (l.take k)
    generalize l[k] = x at hc0 hs
    generalize sumS (l.take k) = sm at hs hnn ⊢
    have hw : IntKind.i64.wrap (sm + (x.size : Int)) = sm + (x.size : Int) := IntWalk.i64_in _ (by omega)
    have HS := Lib.hid hs
    clear hc hs hbd
    go_wp2_with fail
    go_roundw
    case rel => exact ⟨k + 1, by omega, by go_num, by rw [HS.out], hL⟩
    case measure => simp [intOf]; omega
  · have hkl' : ¬ (k : Int) < (n : Int) := by omega
    have hM := Lib.hid hL
    have hke : l.take k = l := List.take_of_length_le (by omega)
    rw [hke]
    clear hL hke
    go_wp2_with fail
    go_ret
    exact ⟨rfl, hM.out⟩
set_option maxRecDepth 100000 in
set_option maxHeartbeats 1600000 in
theorem oindex_any (A : Option Addr) (n cap : Nat) (l : List ByteArray) (w : World) (h : RowS w A n cap l) (hp : ∀ s ∈ l, 0 < s.size) : Calls Tryz.prog 144 #[.slice A n cap, .string ⟨#[]⟩] w (IntPost w (-1)) := by
  have hln := h.len
  have hlm : n ≤ 9223372036854775807 := by have h1 := h.le; have h2 := h.capm; unfold maxLen at h2; omega
  have HR := Lib.hid h
  have HP := Lib.hid hp
  clear h hp
  have hL := lo_refl w
  go_enter Tryz.func144, Tryz.ntmps144
  go_wp2_with fail
  go_loopw [5, 8] (fun _ y wr => ∃ k : Nat, k ≤ n ∧ y = .int .i64 k ∧ Below w.heap.size w wr) (fun _ y _ => n - (intOf y).toNat)
  case atStart => exact ⟨0, by omega, rfl, hL⟩
  case round =>
  clear hL
  obtain ⟨k, hk, rfl, hL⟩ := hrel
  by_cases hkl : k < n
  · have hkl' : (k : Int) < (n : Int) := by omega
    obtain ⟨b, off, rfl, hlt, hc⟩ := (HR.out.lo hL).at (i := k) (x := l[k]) (List.getElem?_eq_getElem (by omega))
    have hc0 := hc 0 _ rfl
    simp only [Nat.add_zero, Nat.mul_one] at hc0
    have hs := HP.out l[k] (List.getElem_mem _)
    generalize l[k] = x at hc0 hs
    have hne : x.toList.isEmpty = false := size_ne hs
    clear hc hs
    go_wp2_with fail
    go_roundw
    case rel => exact ⟨k + 1, by omega, by go_num, hL⟩
    case measure => simp [intOf]; omega
  · have hkl' : ¬ (k : Int) < (n : Int) := by omega
    have hM := Lib.hid hL
    clear hL
    go_wp2_with fail
    go_ret
    exact ⟨rfl, hM.out⟩
theorem ocontains_any (A : Option Addr) (n cap : Nat) (l : List ByteArray) (w : World) (h : RowS w A n cap l) (hp : ∀ s ∈ l, 0 < s.size) : Calls Tryz.prog 106 #[.slice A n cap, .string ⟨#[]⟩] w (BoolPost w false) := by
  have H := Lib.hid (oindex_any A n cap l w h hp)
  clear h hp
  go_enter Tryz.func106, Tryz.ntmps106
  go_wp2_with fail
  refine H.out.mono ?_
  rintro e w1 ⟨rfl, hb⟩
  go_wp2_with fail
  go_ret
  exact ⟨rfl, hb⟩
theorem ocount_any (n : Int) (w : World) (h : 0 ≤ n ∧ n ≤ 60000) : Calls Tryz.prog 107 #[.int .i64 n] w (BoolSame w true) := by
  have h1 : 0 ≤ n := h.1
  have h2 : n ≤ 1099511627776 := by omega
  clear h
  go_enter Tryz.func107, Tryz.ntmps107
  go_wp2
  go_ret
  exact ⟨by simp [h2], rfl⟩
set_option maxRecDepth 100000 in
set_option maxHeartbeats 1600000 in
theorem ocheck_any (A : Option Addr) (n cap : Nat) (l : List ByteArray) (made gone : Int) (w : World) (h : OutOk w A n cap l made gone) : Calls Tryz.prog 64 #[.agg #[.slice A n cap, .int .i64 made, .int .i64 gone]] w (IntPost w 0) := by
  have HO := Lib.hid h
  obtain ⟨hln, hn6, h0, h1, hm, hg⟩ := h.nums
  have H1 : Hid (∀ w0, OutOk w0 A n cap l made gone → Calls Tryz.prog 105 #[.agg #[.slice A n cap, .int .i64 made, .int .i64 gone]] w0 (IntPost w0 (sumS l))) := Lib.hid fun w0 h0 => olen_any A n cap l made gone w0 h0
  have H2 : Hid (∀ w0, OutOk w0 A n cap l made gone → Calls Tryz.prog 106 #[.slice A n cap, .string ⟨#[]⟩] w0 (BoolPost w0 false)) := Lib.hid fun w0 h0 => ocontains_any A n cap l w0 h0.row h0.pos
  have H3 : Hid (∀ w0, Calls Tryz.prog 107 #[.int .i64 made] w0 (BoolSame w0 true)) := Lib.hid fun w0 => ocount_any made w0 ⟨hm, h.made0⟩
  have H4 : Hid (∀ w0, Calls Tryz.prog 107 #[.int .i64 gone] w0 (BoolSame w0 true)) := Lib.hid fun w0 => ocount_any gone w0 ⟨h.gone0, hg⟩
  have hsum := h.sum
  have hg0 := h.gone0
  have hm0 := h.made0
  have hw : IntKind.i64.wrap (made - gone) = sumS l := by rw [← hsum]; exact IntWalk.i64_in _ (by omega)
  have hx : ¬ 65536 < sumS l := by omega
  generalize sumS l = sm at H1 hw hx
  clear h hsum hg0 hm0 hm hg h0 h1
  have hA := Blk.new w 45 #[.slice A n cap, .int .i64 made, .int .i64 gone]
  have hL := lo_alloc (lo_refl w) (.cells #[.slice A n cap, .int .i64 made, .int .i64 gone] 45)
  obtain ⟨cA, fA⟩ := hA.facts
  go_enter Tryz.func64, Tryz.ntmps64
  go_wp2_with fail
  refine (H1.out _ (HO.out.lo hL)).mono ?_
  rintro e w1 ⟨rfl, hb⟩
  clear cA fA
  replace hA := hA.lo hb
  replace hL := lo_trans hL hb
  clear hb
  obtain ⟨cA, fA⟩ := hA.facts
  go_wp2_with fail
  refine (H2.out _ (HO.out.lo hL)).mono ?_
  rintro e w1 ⟨rfl, hb⟩
  clear cA fA
  replace hA := hA.lo hb
  replace hL := lo_trans hL hb
  clear hb
  obtain ⟨cA, fA⟩ := hA.facts
  go_wp2_with fail
  refine (H3.out _).mono ?_
  rintro e w1 ⟨rfl, rfl⟩
  go_wp2_with fail
  refine (H4.out _).mono ?_
  rintro e w1 ⟨rfl, rfl⟩
  go_wp2_with fail
  go_ret
  exact ⟨rfl, hL⟩
set_option maxRecDepth 100000 in
set_option maxHeartbeats 1600000 in
theorem oroom_any (A : Option Addr) (n cap : Nat) (l : List ByteArray) (made gone : Int) (w : World) (h : OutOk w A n cap l made gone) : Calls Tryz.prog 77 #[.agg #[.slice A n cap, .int .i64 made, .int .i64 gone]] w (IntPost w (65536 - sumS l)) := by
  have HO := Lib.hid h
  obtain ⟨hln, hn6, h0, h1, hm, hg⟩ := h.nums
  have H1 : Hid (∀ w0, OutOk w0 A n cap l made gone → Calls Tryz.prog 105 #[.agg #[.slice A n cap, .int .i64 made, .int .i64 gone]] w0 (IntPost w0 (sumS l))) := Lib.hid fun w0 h0 => olen_any A n cap l made gone w0 h0
  have H2 : Hid (∀ w0, OutOk w0 A n cap l made gone → Calls Tryz.prog 64 #[.agg #[.slice A n cap, .int .i64 made, .int .i64 gone]] w0 (IntPost w0 0)) := Lib.hid fun w0 h0 => ocheck_any A n cap l made gone w0 h0
  have hw : IntKind.i64.wrap (65536 - sumS l) = 65536 - sumS l := IntWalk.i64_in _ (by omega)
  generalize sumS l = sm at H1 hw ⊢
  clear h hm hg h0 h1
  have hA := Blk.new w 45 #[.slice A n cap, .int .i64 made, .int .i64 gone]
  have hL := lo_alloc (lo_refl w) (.cells #[.slice A n cap, .int .i64 made, .int .i64 gone] 45)
  obtain ⟨cA, fA⟩ := hA.facts
  go_enter Tryz.func77, Tryz.ntmps77
  go_wp2_with fail
  refine (H2.out _ (HO.out.lo hL)).mono ?_
  rintro e w1 ⟨rfl, hb⟩
  clear cA fA
  replace hA := hA.lo hb
  replace hL := lo_trans hL hb
  clear hb
  obtain ⟨cA, fA⟩ := hA.facts
  go_wp2_with fail
  refine (H1.out _ (HO.out.lo hL)).mono ?_
  rintro e w1 ⟨rfl, hb⟩
  clear cA fA
  replace hA := hA.lo hb
  replace hL := lo_trans hL hb
  clear hb
  obtain ⟨cA, fA⟩ := hA.facts
  go_wp2_with fail
  go_ret
  exact ⟨rfl, hL⟩
/-- A queue with a list of the call's own. -/
def OOwnPost (w : World) (l : List ByteArray) (made gone : Int) (e : Ending) (w' : World) : Prop :=
  ∃ v, e = .returned (.agg #[v, .int .i64 made, .int .i64 gone]) ∧ w'.ownsRow w.heap.size 9 1 v l.length (l.flatMap cellsS) ∧ Below w.heap.size w w'
set_option maxRecDepth 100000 in
set_option maxHeartbeats 1600000 in
theorem oown_any (A : Option Addr) (n cap : Nat) (l : List ByteArray) (made gone : Int) (w : World) (h : OutOk w A n cap l made gone) : Calls Tryz.prog 63 #[.agg #[.slice A n cap, .int .i64 made, .int .i64 gone]] w (OOwnPost w l made gone) := by
  have HR := Lib.hid h.row
  have hn6 := h.nums.2.1
  have hln := h.nums.1
  have H1 : Hid (∀ w0, RowS w0 A n cap l → Calls Tryz.prog 104 #[.slice A n cap] w0 (RowPost 9 1 cellsS w0 l)) := Lib.hid fun w0 h0 => clone_s A n cap l w0 h0 (by omega)
  clear h
  have hA := Blk.new w 45 #[.slice A n cap, .int .i64 made, .int .i64 gone]
  have hL := lo_alloc (lo_refl w) (.cells #[.slice A n cap, .int .i64 made, .int .i64 gone] 45)
  have hB := Blk.new (w.alloc (.cells #[.slice A n cap, .int .i64 made, .int .i64 gone] 45)) 45 #[.slice none 0 0, .int .i64 0, .int .i64 0]
  replace hA := hA.alloc (.cells #[.slice none 0 0, .int .i64 0, .int .i64 0] 45)
  replace hL := lo_alloc hL (.cells #[.slice none 0 0, .int .i64 0, .int .i64 0] 45)
  simp only [World.size_alloc] at hB
  obtain ⟨cA, fA⟩ := hA.facts
  obtain ⟨cB, fB⟩ := hB.facts
  go_enter Tryz.func63, Tryz.ntmps63
  go_wp2_with fail
  refine (H1.out _ (HR.out.lo hL)).mono ?_
  rintro e w1 ⟨v, rfl, hown, hb⟩
  clear cA fA cB fB
  replace hA := hA.lo hb
  replace hB := hB.lo hb
  replace hL := lo_trans hL hb
  replace hown := own_mono (base' := w.heap.size + 2) hown (by simp)
  obtain ⟨A2, cap2, rfl, _, _⟩ := own_shape hown
  clear hb H1 HR
  obtain ⟨cA, fA⟩ := hA.facts
  obtain ⟨cB, fB⟩ := hB.facts
  have lA := hA.lt
  have lB := hB.lt
  go_wp2_with fail
  rw [hln] at hown
  have hX := (((hB.far (p := ⟨w.heap.size, 0, none⟩) (show w.heap.size + 1 ≠ w.heap.size by omega) (.slice A2 n cap2)).set_ 0 (.slice A2 n cap2)).set_ 1 (.int .i64 made)).set_ 2 (.int .i64 gone)
  have hM := lo_set (lo_set (lo_set (lo_set hL (p := ⟨w.heap.size, 0, none⟩) (Nat.le_refl _) (.slice A2 n cap2)) (p := ⟨w.heap.size + 1, 0, none⟩) (Nat.le_succ _) (.slice A2 n cap2)) (p := ⟨w.heap.size + 1, 1, none⟩) (Nat.le_succ _) (.int .i64 made)) (p := ⟨w.heap.size + 1, 2, none⟩) (Nat.le_succ _) (.int .i64 gone)
  have hO := own_low (own_low (own_low (own_low hown (p := ⟨w.heap.size, 0, none⟩) (by simp) (.slice A2 n cap2)) (p := ⟨w.heap.size + 1, 0, none⟩) (by simp) (.slice A2 n cap2)) (p := ⟨w.heap.size + 1, 1, none⟩) (by simp) (.int .i64 made)) (p := ⟨w.heap.size + 1, 2, none⟩) (by simp) (.int .i64 gone)
  clear cA fA cB fB hA hB hown hL lA lB
  generalize ((((w1.setCell ⟨w.heap.size, 0, none⟩ (.slice A2 n cap2)).setCell ⟨w.heap.size + 1, 0, none⟩ (.slice A2 n cap2)).setCell ⟨w.heap.size + 1, 1, none⟩ (.int .i64 made)).setCell ⟨w.heap.size + 1, 2, none⟩ (.int .i64 gone)) = W at hX hM hO ⊢
  simp only [List.setIfInBounds_toArray, List.set_cons_zero, List.set_cons_succ] at hX
  obtain ⟨cX, fX⟩ := hX.facts
  refine bodyPost_ret (v := .agg #[.slice A2 n cap2, .int .i64 made, .int .i64 gone]) (by simp [results, Tryz.results63, go_sem, cX] <;> (repeat' (first | apply And.intro | (show _ = _; kernel_rfl)))) rfl ⟨_, rfl, ?_, hM⟩
  rw [hln]
  exact own_mono hO (by omega)
end Go.Proofs.YtdonnbfojcggmaaGreat
