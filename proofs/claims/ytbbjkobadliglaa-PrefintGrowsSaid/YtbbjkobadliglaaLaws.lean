import Derived.Test.YtbbjkobadliglaaGetRef
import Derived.Laws.BytesString
namespace Go.Proofs.Ytbbjkobadliglaa
open Go.RowKit

/-- The text of these bytes. -/
def S (l : List Nat) : ByteArray := (l.map Int.ofNat).foldl (fun r n => r.push (UInt8.ofNat n.toNat)) ByteArray.empty
theorem run_str {w : World} {base : Nat} {v : Value} {l : List Nat} (h : w.ownsRow base 5 1 v l.length (B l)) : (convert 22 9 v).run Try.prog w = .ok (.string (S l)) w := by
  rcases h.2 with ⟨rfl, h0⟩ | ⟨g, cap, cur, rfl, _⟩
  · obtain rfl : l = [] := List.eq_nil_of_length_eq_zero h0
    rw [run_convert_bytes_string w 22 9 5 _ _ _ Try.underlying22 Try.underlying5 Try.underlying9]
    simp [Conv.bytesToString, S]
  · rw [run_convert_bytes_string w 22 9 5 _ _ _ Try.underlying22 Try.underlying5 Try.underlying9]
    refine run_bytesToString w _ _ _ (l.map Int.ofNat) ?_
    have hc := h.cells (g := g) rfl
    have := run_loadCells_list (P := Try.prog) (w := w) ⟨g, 0, none⟩ (B l) hc
    rw [B_len] at this
    rw [this]
    simp [B]
theorem own_below {w w' : World} {base : Nat} {e : TypeId} {size n : Nat} {v : Value} {xs : List Value} (h : w.ownsRow base e size v n xs) (hb : Below w.heap.size w w') : w'.ownsRow base e size v n xs := by
  obtain ⟨h1, h2⟩ := h
  refine ⟨h1, ?_⟩
  rcases h2 with h2 | ⟨g, cap, cur, hv, hg, hh, r⟩
  · exact .inl h2
  · refine .inr ⟨g, cap, cur, hv, hg, ?_, r⟩
    have hlt : g < w.heap.size := by
      rcases Nat.lt_or_ge g w.heap.size with hlt | hge
      · exact hlt
      · rw [Array.getElem?_eq_none hge] at hh; cases hh
    rw [hb.block g hlt]
    exact hh
theorem own_form {w : World} {base : Nat} {e : TypeId} {size n : Nat} {v : Value} {xs : List Value} (h : w.ownsRow base e size v n xs) : ∃ A cap, v = .slice A n cap := by
  rcases h.2 with ⟨rfl, rfl⟩ | ⟨g, cap, cur, rfl, _⟩
  · exact ⟨_, _, rfl⟩
  · exact ⟨_, _, rfl⟩
def SizePost (w : World) (n : Nat) (e : Ending) (w' : World) : Prop := e = .returned (.int .i64 n) ∧ Below w.heap.size w w'
theorem size_good (k n : Nat) (hk1 : 1 ≤ k) (hk : k ≤ 8) (hn : n ≤ 268435455) (w : World) : Calls Try.prog 9 #[.int .i64 k, .int .i64 n] w (SizePost w (putL 0 k n).length) := by
  go_enter Try.func9, Try.ntmps9
  go_wp2_with fail
  refine (put_any 0 k n (by decide) hk1 hk hn _).mono ?_
  rintro e w1 ⟨v, rfl, hown, hbel⟩
  obtain ⟨A, cap, rfl⟩ := own_form hown
  go_wp2_with fail
  go_ret
  exact ⟨rfl, hbel⟩
theorem size_good_ref (k n : Nat) (hk1 : 1 ≤ k) (hk : k ≤ 8) (hn : n ≤ 268435455) (w : World) : Calls Try.prog 10 #[.int .i64 k, .int .i64 n] w (SizePost w (putL 0 k n).length) := by
  go_enter Try.func10, Try.ntmps10
  go_wp2_with fail
  refine (put_ref 0 k n (by decide) hk1 hk hn _).mono ?_
  rintro e w1 ⟨v, rfl, hown, hbel⟩
  obtain ⟨A, cap, rfl⟩ := own_form hown
  go_wp2_with fail
  go_ret
  exact ⟨rfl, hbel⟩
theorem size_bad (b n : Int) (h : (b < 1 ∨ 8 < b) ∨ n < 0 ∨ 268435455 < n) (w : World) : Calls Try.prog 9 #[.int .i64 b, .int .i64 n] w (SizePost w 0) := by
  go_enter Try.func9, Try.ntmps9
  go_wp2_with fail
  refine (put_bad 0 b n h _).mono ?_
  rintro e w1 ⟨rfl, rfl⟩
  go_wp2_with fail
  go_ret
  exact ⟨rfl, Below.refl _ _⟩
theorem size_bad_ref (b n : Int) (h : (b < 1 ∨ 8 < b) ∨ n < 0 ∨ 268435455 < n) (w : World) : Calls Try.prog 10 #[.int .i64 b, .int .i64 n] w (SizePost w 0) := by
  go_enter Try.func10, Try.ntmps10
  go_wp2_with fail
  refine (put_bad_ref 0 b n h _).mono ?_
  rintro e w1 ⟨rfl, rfl⟩
  go_wp2_with fail
  go_ret
  exact ⟨rfl, Below.refl _ _⟩

def AwakePost (w : World) (e : Ending) (w' : World) : Prop := e = .returned (.bool true) ∧ Below w.heap.size w w'
set_option maxRecDepth 100000 in
set_option maxHeartbeats 1600000 in
theorem awake_any (w : World) : Calls Try.prog 13 #[] w (AwakePost w) := by
  go_enter Try.func13, Try.ntmps13
  go_wp2_with fail
  refine (put_any 0 5 10 (by decide) (by decide) (by decide) (by decide) _).mono ?_
  rintro e w1 ⟨v1, rfl, hown1, hbel1⟩
  go_wp2_with fail
  refine (put_any 224 5 1337 (by decide) (by decide) (by decide) (by decide) _).mono ?_
  rintro e w2 ⟨v2, rfl, hown2, hbel2⟩
  go_wp2_with fail
  refine (get_any w2.heap.size 0 4 5 31 [154, 10, 9] _ (by decide) (by decide) (by decide) (by decide) (by decide) ?_ ?_).mono ?_
  · simp
  · intro i h
    have : i = 0 ∨ i = 1 ∨ i = 2 := by simp at h; omega
    rcases this with rfl | rfl | rfl <;> simp
  rintro e w3 ⟨rfl, hbel3⟩
  go_wp2_with fail
  refine (get_any w3.heap.size 0 2 5 31 [154] _ (by decide) (by decide) (by decide) (by decide) (by decide) ?_ ?_).mono ?_
  · simp
  · intro i h
    have : i = 0 := by simp at h; omega
    rcases this with rfl <;> simp
  rintro e w4 ⟨rfl, hbel4⟩
  go_wp2_with fail
  refine (put_bad 0 9 1 (by decide) _).mono ?_
  rintro e w5 ⟨rfl, rfl⟩
  have e1 : getL [31, 154, 10, 9] 5 = (1337, 3, 0) := by decide
  have e2 : getL [31, 154] 5 = (0, 0, 3) := by decide
  have o1 := own_below (((own_below (((own_below hown1 hbel2)).alloc _) hbel3)).alloc _) hbel4
  have o2 := own_below ((own_below (hown2.alloc _) hbel3).alloc _) hbel4
  have c1 := run_str o1
  have c2 := run_str o2
  have s1 : S (putL 0 5 10) = ⟨#[10]⟩ := by decide +kernel
  have s2 : S (putL 224 5 1337) = ⟨#[255, 154, 10]⟩ := by decide +kernel
  have p1 : putErr 9 1 = 2 := by decide
  rw [s1] at c1
  rw [s2] at c2
  have hr := rest_any 255 5 (by decide)
  have hr2 : restN 255 (clampK 5) = 224 := by decide
  rw [hr2] at hr
  have HR := Lib.hid hr
  have hs := size_good 5 1337 (by decide) (by decide) (by decide)
  have hs2 : (putL 0 5 1337).length = 3 := by decide
  rw [hs2] at hs
  have HS := Lib.hid hs
  have HB : Hid (Below w.heap.size w w4) := by
    have h12 := hbel1.trans (hbel2.mono hbel1.size)
    have h3 := (h12.alloc h12.size _).trans (hbel3.mono (by simp; have := h12.size; omega))
    exact (h3.alloc h3.size _).trans (hbel4.mono (by simp; have := h3.size; omega))
  clear hr hr2 hs hs2 s1 s2 o1 o2 hown1 hown2 hbel1 hbel2 hbel3 hbel4
  go_wp2_with fail
  refine (HS.out _).mono ?_
  rintro e w6 ⟨rfl, hbel6⟩
  have HB6 : Hid (Below w.heap.size w w6) := HB.out.trans (hbel6.mono HB.out.size)
  clear HB hbel6
  go_wp2_with fail
  refine (HR.out _).mono ?_
  rintro e w7 ⟨rfl, rfl⟩
  go_wp2_with fail
  go_ret
  exact ⟨rfl, HB6.out⟩
end Go.Proofs.Ytbbjkobadliglaa
