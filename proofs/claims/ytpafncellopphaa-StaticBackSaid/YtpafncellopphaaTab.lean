import Derived.Test.YtpafncellopphaaKit
import Derived.Deep.WholeRow
import Derived.Laws.ResultCell
import Derived.Deep.DeepCutAuto
namespace Go.Proofs.Ytpafncellopphaa
open Go.RowKit

/-- The table: names and values, in order. -/
def tab : List (ByteArray × ByteArray) := [
  (⟨#[58, 97, 117, 116, 104, 111, 114, 105, 116, 121]⟩, ⟨#[]⟩),
  (⟨#[58, 109, 101, 116, 104, 111, 100]⟩, ⟨#[71, 69, 84]⟩),
  (⟨#[58, 109, 101, 116, 104, 111, 100]⟩, ⟨#[80, 79, 83, 84]⟩),
  (⟨#[58, 112, 97, 116, 104]⟩, ⟨#[47]⟩),
  (⟨#[58, 112, 97, 116, 104]⟩, ⟨#[47, 105, 110, 100, 101, 120, 46, 104, 116, 109, 108]⟩),
  (⟨#[58, 115, 99, 104, 101, 109, 101]⟩, ⟨#[104, 116, 116, 112]⟩),
  (⟨#[58, 115, 99, 104, 101, 109, 101]⟩, ⟨#[104, 116, 116, 112, 115]⟩),
  (⟨#[58, 115, 116, 97, 116, 117, 115]⟩, ⟨#[50, 48, 48]⟩),
  (⟨#[58, 115, 116, 97, 116, 117, 115]⟩, ⟨#[50, 48, 52]⟩),
  (⟨#[58, 115, 116, 97, 116, 117, 115]⟩, ⟨#[50, 48, 54]⟩),
  (⟨#[58, 115, 116, 97, 116, 117, 115]⟩, ⟨#[51, 48, 52]⟩),
  (⟨#[58, 115, 116, 97, 116, 117, 115]⟩, ⟨#[52, 48, 48]⟩),
  (⟨#[58, 115, 116, 97, 116, 117, 115]⟩, ⟨#[52, 48, 52]⟩),
  (⟨#[58, 115, 116, 97, 116, 117, 115]⟩, ⟨#[53, 48, 48]⟩),
  (⟨#[97, 99, 99, 101, 112, 116, 45, 99, 104, 97, 114, 115, 101, 116]⟩, ⟨#[]⟩),
  (⟨#[97, 99, 99, 101, 112, 116, 45, 101, 110, 99, 111, 100, 105, 110, 103]⟩, ⟨#[103, 122, 105, 112, 44, 32, 100, 101, 102, 108, 97, 116, 101]⟩),
  (⟨#[97, 99, 99, 101, 112, 116, 45, 108, 97, 110, 103, 117, 97, 103, 101]⟩, ⟨#[]⟩),
  (⟨#[97, 99, 99, 101, 112, 116, 45, 114, 97, 110, 103, 101, 115]⟩, ⟨#[]⟩),
  (⟨#[97, 99, 99, 101, 112, 116]⟩, ⟨#[]⟩),
  (⟨#[97, 99, 99, 101, 115, 115, 45, 99, 111, 110, 116, 114, 111, 108, 45, 97, 108, 108, 111, 119, 45, 111, 114, 105, 103, 105, 110]⟩, ⟨#[]⟩),
  (⟨#[97, 103, 101]⟩, ⟨#[]⟩),
  (⟨#[97, 108, 108, 111, 119]⟩, ⟨#[]⟩),
  (⟨#[97, 117, 116, 104, 111, 114, 105, 122, 97, 116, 105, 111, 110]⟩, ⟨#[]⟩),
  (⟨#[99, 97, 99, 104, 101, 45, 99, 111, 110, 116, 114, 111, 108]⟩, ⟨#[]⟩),
  (⟨#[99, 111, 110, 116, 101, 110, 116, 45, 100, 105, 115, 112, 111, 115, 105, 116, 105, 111, 110]⟩, ⟨#[]⟩),
  (⟨#[99, 111, 110, 116, 101, 110, 116, 45, 101, 110, 99, 111, 100, 105, 110, 103]⟩, ⟨#[]⟩),
  (⟨#[99, 111, 110, 116, 101, 110, 116, 45, 108, 97, 110, 103, 117, 97, 103, 101]⟩, ⟨#[]⟩),
  (⟨#[99, 111, 110, 116, 101, 110, 116, 45, 108, 101, 110, 103, 116, 104]⟩, ⟨#[]⟩),
  (⟨#[99, 111, 110, 116, 101, 110, 116, 45, 108, 111, 99, 97, 116, 105, 111, 110]⟩, ⟨#[]⟩),
  (⟨#[99, 111, 110, 116, 101, 110, 116, 45, 114, 97, 110, 103, 101]⟩, ⟨#[]⟩),
  (⟨#[99, 111, 110, 116, 101, 110, 116, 45, 116, 121, 112, 101]⟩, ⟨#[]⟩),
  (⟨#[99, 111, 111, 107, 105, 101]⟩, ⟨#[]⟩),
  (⟨#[100, 97, 116, 101]⟩, ⟨#[]⟩),
  (⟨#[101, 116, 97, 103]⟩, ⟨#[]⟩),
  (⟨#[101, 120, 112, 101, 99, 116]⟩, ⟨#[]⟩),
  (⟨#[101, 120, 112, 105, 114, 101, 115]⟩, ⟨#[]⟩),
  (⟨#[102, 114, 111, 109]⟩, ⟨#[]⟩),
  (⟨#[104, 111, 115, 116]⟩, ⟨#[]⟩),
  (⟨#[105, 102, 45, 109, 97, 116, 99, 104]⟩, ⟨#[]⟩),
  (⟨#[105, 102, 45, 109, 111, 100, 105, 102, 105, 101, 100, 45, 115, 105, 110, 99, 101]⟩, ⟨#[]⟩),
  (⟨#[105, 102, 45, 110, 111, 110, 101, 45, 109, 97, 116, 99, 104]⟩, ⟨#[]⟩),
  (⟨#[105, 102, 45, 114, 97, 110, 103, 101]⟩, ⟨#[]⟩),
  (⟨#[105, 102, 45, 117, 110, 109, 111, 100, 105, 102, 105, 101, 100, 45, 115, 105, 110, 99, 101]⟩, ⟨#[]⟩),
  (⟨#[108, 97, 115, 116, 45, 109, 111, 100, 105, 102, 105, 101, 100]⟩, ⟨#[]⟩),
  (⟨#[108, 105, 110, 107]⟩, ⟨#[]⟩),
  (⟨#[108, 111, 99, 97, 116, 105, 111, 110]⟩, ⟨#[]⟩),
  (⟨#[109, 97, 120, 45, 102, 111, 114, 119, 97, 114, 100, 115]⟩, ⟨#[]⟩),
  (⟨#[112, 114, 111, 120, 121, 45, 97, 117, 116, 104, 101, 110, 116, 105, 99, 97, 116, 101]⟩, ⟨#[]⟩),
  (⟨#[112, 114, 111, 120, 121, 45, 97, 117, 116, 104, 111, 114, 105, 122, 97, 116, 105, 111, 110]⟩, ⟨#[]⟩),
  (⟨#[114, 97, 110, 103, 101]⟩, ⟨#[]⟩),
  (⟨#[114, 101, 102, 101, 114, 101, 114]⟩, ⟨#[]⟩),
  (⟨#[114, 101, 102, 114, 101, 115, 104]⟩, ⟨#[]⟩),
  (⟨#[114, 101, 116, 114, 121, 45, 97, 102, 116, 101, 114]⟩, ⟨#[]⟩),
  (⟨#[115, 101, 114, 118, 101, 114]⟩, ⟨#[]⟩),
  (⟨#[115, 101, 116, 45, 99, 111, 111, 107, 105, 101]⟩, ⟨#[]⟩),
  (⟨#[115, 116, 114, 105, 99, 116, 45, 116, 114, 97, 110, 115, 112, 111, 114, 116, 45, 115, 101, 99, 117, 114, 105, 116, 121]⟩, ⟨#[]⟩),
  (⟨#[116, 114, 97, 110, 115, 102, 101, 114, 45, 101, 110, 99, 111, 100, 105, 110, 103]⟩, ⟨#[]⟩),
  (⟨#[117, 115, 101, 114, 45, 97, 103, 101, 110, 116]⟩, ⟨#[]⟩),
  (⟨#[118, 97, 114, 121]⟩, ⟨#[]⟩),
  (⟨#[118, 105, 97]⟩, ⟨#[]⟩),
  (⟨#[119, 119, 119, 45, 97, 117, 116, 104, 101, 110, 116, 105, 99, 97, 116, 101]⟩, ⟨#[]⟩)]
def fcells (x : ByteArray × ByteArray) : List Value := [.string x.1, .string x.2, .bool false]
def fagg (x : ByteArray × ByteArray) : Value := .agg #[.string x.1, .string x.2, .bool false]
def tabArr : Array Value := (tab.flatMap fcells).toArray
theorem tab_len : tab.length = 61 := by kernel_rfl
theorem tabArr_size : tabArr.size = 183 := by kernel_rfl
theorem tabArr_one : tabArr.all (·.oneCell') = true := by kernel_rfl
def zArr : Array Value := ((List.replicate 61 ((⟨#[]⟩ : ByteArray), (⟨#[]⟩ : ByteArray))).flatMap fcells).toArray
theorem zArr_size : zArr.size = 183 := by kernel_rfl
theorem info35 : (Try.prog.info? 35).map (fun i => (i.zero, i.size)) = some (some (.agg zArr), 183) := by kernel_rfl
/-- Many plain operations at once, by computation. -/
def runList (P : Program) (ops : Array Oper) : List Oper → Act → World → Option (Act × World)
  | [], a, w => some (a, w)
  | o :: rest, a, w =>
    if Region.wanted o (yielded ops a.tmps) then
      match (execOp a.eval o).run P w with
      | .ok (.value v) w' => runList P ops rest (a.put o.dst v) w'
      | .ok .skip w' => runList P ops rest (a.put o.dst undef) w'
      | _ => none
    else runList P ops rest (a.put o.dst undef) w
theorem wpList_run1 {P : Program} {ops : Array Oper} {Q : Exit → Act → World → Prop} (r : List Oper) : ∀ (l : List Oper) (a : Act) (w : World) (a' : Act) (w' : World), runList P ops l a w = some (a', w') → wpList P ops Q r a' w' → wpList P ops Q (l ++ r) a w
  | [], a, w, a', w', h, k => by
    simp only [runList, Option.some.injEq, Prod.mk.injEq] at h
    obtain ⟨rfl, rfl⟩ := h
    exact k
  | o :: t, a, w, a', w', h, k => by
    simp only [runList] at h
    simp only [List.cons_append, wpList]
    split at h
    · rename_i hw
      rw [if_pos hw]
      refine Or.inl ?_
      unfold Oper.wp
      split at h
      · rename_i he
        rw [he]
        exact wpList_run1 r t _ _ _ _ h k
      · rename_i he
        rw [he]
        exact wpList_run1 r t _ _ _ _ h k
      · cases h
    · rename_i hw
      rw [if_neg hw]
      exact wpList_run1 r t _ _ _ _ h k
theorem wpList_run {P : Program} {ops : Array Oper} {Q : Exit → Act → World → Prop} {l : List Oper} {a : Act} {w : World} (n i j : Nat) (u v : Value) (w' : World)
    (h : (runList P ops (l.take n) a w).map (fun x => (x.1.tmps.getD i undef, x.1.tmps.getD j undef, x.1.defers, x.2)) = some (u, v, [], w'))
    (k : ∀ a' : Act, a'.tmps.getD i undef = u → a'.tmps.getD j undef = v → a'.defers = [] → wpList P ops Q (l.drop n) a' w') : wpList P ops Q l a w := by
  cases hr : runList P ops (l.take n) a w with
  | none => rw [hr] at h; cases h
  | some x =>
    obtain ⟨a', w2⟩ := x
    rw [hr] at h
    simp only [Option.map_some, Option.some.injEq, Prod.mk.injEq] at h
    obtain ⟨h1, h2, h3, rfl⟩ := h
    have := wpList_run1 (Q := Q) (l.drop n) (l.take n) a w a' w2 hr (k a' h1 h2 h3)
    rwa [List.take_append_drop] at this
set_option maxRecDepth 100000 in
set_option maxHeartbeats 3200000 in
theorem fields_any (w : World) : Calls Try.prog 14 #[] w fun e w' => e = .returned (.agg tabArr) ∧ Below w.heap.size w w' := by
  have hz := (zero_of_info info35).1
  have hst := run_storeAt_new (P := Try.prog) w 35 zArr tabArr (by kernel_rfl) (by kernel_rfl) tabArr_one
  have hld := run_loadVar_new (P := Try.prog) w 35 tabArr 61 23 (by kernel_rfl) (by kernel_rfl)
  go_enter Try.func14, Try.ntmps14
  go_upto_region 1 with fail
  refine wp_region_list ?_
  refine wpList_run 62 0 62 (.pointer (some ⟨w.heap.size, 0, none⟩)) (.agg tabArr) (w.alloc (.cells zArr 35)) (by kernel_rfl) ?_
  intro a' h0 h1 h2
  refine wpList_plain rfl fun K hK => ?_
  have e0 : a'.eval (.tmp 0) = .pointer (some ⟨w.heap.size, 0, none⟩) := h0
  have e1 : a'.eval (.tmp 62) = .agg tabArr := h1
  clear h0 h1
  unfold Oper.wp
  simp only [execOp, e0, e1]
  rw [Sem.run_bind, hst]
  simp only [Result.andThen, Sem.run_pure]
  rw [Oper.upon_skip]
  refine hK _ _ ?_
  refine wpList_nil ?_
  rename_i Q' K0 hK0
  simp only [Exit.then]
  refine hK0 _ _ ?_
  go_wp2
  refine bodyPost_ret (v := .agg tabArr) ?_ h2 ⟨rfl, lo_alloc (lo_refl w) _⟩
  have e0' : a'.tmps[0]?.getD undef = .pointer (some ⟨w.heap.size, 0, none⟩) := by simpa [Act.eval] using e0
  show (results Try.f14 a'.tmps).run _ _ = _
  simp [results, Try.results14, asAddr, hld, e0']
end Go.Proofs.Ytpafncellopphaa
