import Derived.Test.YtpafncellopphaaSmall
import Derived.Test.YtpafncellopphaaFind
import Derived.Deep.DrawnRows
namespace Go.Proofs.Ytpafncellopphaa
open Go.RowKit
attribute [local go_sem ↓] Go.wp_at_zero Go.wp_at_succ

theorem at_2 : atT 2 = ((⟨#[58, 109, 101, 116, 104, 111, 100]⟩, ⟨#[71, 69, 84]⟩), true) := by kernel_rfl
theorem at_62 : atT 62 = ((⟨#[]⟩, ⟨#[]⟩), false) := by kernel_rfl
theorem find_1 : findT ⟨#[58, 109, 101, 116, 104, 111, 100]⟩ ⟨#[80, 79, 83, 84]⟩ = (3, true) := by kernel_rfl
theorem find_2 : findT ⟨#[58, 109, 101, 116, 104, 111, 100]⟩ ⟨#[80, 85, 84]⟩ = (2, false) := by kernel_rfl
theorem find_3 : findT ⟨#[120]⟩ ⟨#[]⟩ = (0, false) := by kernel_rfl
def AwakePost (w : World) (e : Ending) (w' : World) : Prop := e = .returned (.bool true) ∧ Below w.heap.size w w'
set_option maxRecDepth 100000 in
set_option maxHeartbeats 3200000 in
theorem awake_any (w : World) : Calls Try.prog 6 #[] w (AwakePost w) := by
  have h1 := at_any 2
  rw [at_2] at h1
  have H1 := Lib.hid h1
  have h2 := at_any 62
  rw [at_62] at h2
  have H2 := Lib.hid h2
  have h3 := find_any ⟨#[58, 109, 101, 116, 104, 111, 100]⟩ ⟨#[80, 79, 83, 84]⟩
  rw [find_1] at h3
  have H3 := Lib.hid h3
  have h4 := find_any ⟨#[58, 109, 101, 116, 104, 111, 100]⟩ ⟨#[80, 85, 84]⟩
  rw [find_2] at h4
  have H4 := Lib.hid h4
  have h5 := find_any ⟨#[120]⟩ ⟨#[]⟩
  rw [find_3] at h5
  have H5 := Lib.hid h5
  have h6 := size_any ⟨#[58, 109, 101, 116, 104, 111, 100]⟩ ⟨#[71, 69, 84]⟩ false (by decide) (by decide)
  have H6 := Lib.hid h6
  clear h1 h2 h3 h4 h5 h6
  go_enter Try.func6, Try.ntmps6
  go_wp2_with fail
  refine (H1.out _).mono ?_
  rintro e w1 ⟨rfl, hb1⟩
  have hB := Blk.new w1 23 #[.string ⟨#[58, 109, 101, 116, 104, 111, 100]⟩, .string ⟨#[71, 69, 84]⟩, .bool false]
  have hL := Lib.hid (lo_alloc hb1 (.cells #[.string ⟨#[58, 109, 101, 116, 104, 111, 100]⟩, .string ⟨#[71, 69, 84]⟩, .bool false] 23))
  clear hb1
  go_wp2_with fail
  refine (H2.out _).mono ?_
  rintro e w2 ⟨rfl, hb2⟩
  have hB := (hB.lo hb2).alloc (.cells #[.string ⟨#[]⟩, .string ⟨#[]⟩, .bool false] 23)
  have hL := Lib.hid (lo_alloc (lo_trans hL.out hb2) (.cells #[.string ⟨#[]⟩, .string ⟨#[]⟩, .bool false] 23))
  clear hb2
  go_wp2_with fail
  refine (H3.out _).mono ?_
  rintro e w3 ⟨rfl, hb3⟩
  have hB := hB.lo hb3
  have hL := Lib.hid (lo_trans hL.out hb3)
  clear hb3
  go_wp2_with fail
  refine (H4.out _).mono ?_
  rintro e w4 ⟨rfl, hb4⟩
  have hB := hB.lo hb4
  have hL := Lib.hid (lo_trans hL.out hb4)
  clear hb4
  go_wp2_with fail
  refine (H5.out _).mono ?_
  rintro e w5 ⟨rfl, hb5⟩
  have hB := hB.lo hb5
  have hL := Lib.hid (lo_trans hL.out hb5)
  clear hb5
  obtain ⟨cB, fB⟩ := hB.facts
  go_wp2_with fail
  refine (all_any _).mono ?_
  rintro e w6 ⟨g, rfl, hg1, hg2, hb6⟩
  have hB := hB.lo hb6
  have hL := Lib.hid (lo_trans hL.out hb6)
  clear hb6 cB fB hg1
  obtain ⟨cB, fB⟩ := hB.facts
  go_wp2_with fail
  refine (H6.out _).mono ?_
  rintro e w7 ⟨rfl, hb7⟩
  go_wp2_with fail
  go_ret
  exact ⟨rfl, lo_trans hL.out hb7⟩
end Go.Proofs.Ytpafncellopphaa
