/- Two writes of two files. -/
import Derived.Test.YtaeapobjhgakiaaPchanged
set_option linter.unusedVariables false
set_option linter.unusedSimpArgs false
set_option linter.unnecessarySimpa false
set_option linter.deprecated false
namespace Go.Proofs.Ytaeapobjhgakiaa.F
open Go Go.RowKit Go.Proofs.Ytaeapobjhgakiaa.Sl
def layR (f : File) : List File → List File
  | [] => [f]
  | x :: xs => bif decide (Less x.Name f.Name) then x :: layR f xs else f :: (x :: xs).filter (fun y => !decide (y.Name = f.Name))
/-! ### what such a list holds -/
theorem layR_mem (f : File) : ∀ (l : List File) (x : File), x ∈ layR f l → x = f ∨ x ∈ l
  | [], x, h => .inl (by simpa [layR] using h)
  | y :: l, x, h => by
    unfold layR at h
    cases hy : decide (Less y.Name f.Name) with
    | true =>
      rw [hy, cond_true] at h
      rcases List.mem_cons.1 h with rfl | h
      · exact .inr (by simp)
      · exact (layR_mem f l x h).imp id (List.mem_cons_of_mem _)
    | false =>
      rw [hy, cond_false] at h
      rcases List.mem_cons.1 h with rfl | h
      · exact .inl rfl
      · exact .inr (List.mem_filter.1 h).1
theorem layR_sorted (f : File) : ∀ l : List File, SortedF l → SortedF (layR f l)
  | [], _ => List.pairwise_singleton _ _
  | y :: l, h => by
    obtain ⟨h1, h2⟩ := List.pairwise_cons.1 h
    unfold layR
    by_cases hy : Less y.Name f.Name
    · rw [decide_eq_true hy, cond_true]
      refine List.pairwise_cons.2 ⟨fun x hx => ?_, layR_sorted f l h2⟩
      rcases layR_mem f l x hx with rfl | hx
      · exact hy
      · exact h1 x hx
    · rw [decide_eq_false hy, cond_false]
      refine List.pairwise_cons.2 ⟨fun x hx => ?_, List.Pairwise.filter _ h⟩
      obtain ⟨hx, hne⟩ := List.mem_filter.1 hx
      have hne' : ¬ x.Name = f.Name := by simpa using hne
      rcases List.mem_cons.1 hx with rfl | hx
      · exact Classical.byContradiction fun hk => hne' (Less.tri hy hk)
      · have hyx := h1 x hx
        by_cases hk : Less f.Name y.Name
        · exact hk.trans hyx
        · rw [← Less.tri hy hk]; exact hyx
theorem fileOf_cons (x : File) (l : List File) (s : ByteArray) : fileOf (x :: l) s = bif decide (x.Name = s) then some x else fileOf l s := by
  unfold fileOf
  rw [List.find?_cons]
  cases decide (x.Name = s) <;> rfl
theorem fileOf_filter {s t : ByteArray} (h : s ≠ t) : ∀ l : List File, fileOf (l.filter fun y => !decide (y.Name = t)) s = fileOf l s
  | [] => rfl
  | x :: l => by
    rw [List.filter_cons, fileOf_cons]
    by_cases hx : x.Name = t
    · rw [decide_eq_true hx, decide_eq_false (show ¬ x.Name = s from fun e => h (by rw [← e, hx]))]
      simp only [Bool.not_true, Bool.false_eq_true, if_false, cond_false]
      exact fileOf_filter h l
    · rw [decide_eq_false hx]
      simp only [Bool.not_false, if_true]
      rw [fileOf_cons, fileOf_filter h l]
theorem fileOf_lay_other (f : File) {s : ByteArray} (h : s ≠ f.Name) : ∀ l : List File, fileOf (layR f l) s = fileOf l s
  | [] => by rw [show layR f [] = [f] from rfl, fileOf_cons, decide_eq_false (fun e => h e.symm)]; rfl
  | x :: l => by
    unfold layR
    cases decide (Less x.Name f.Name) with
    | true => rw [cond_true, fileOf_cons, fileOf_cons, fileOf_lay_other f h l]
    | false => rw [cond_false, fileOf_cons, decide_eq_false (fun e => h e.symm), cond_false, fileOf_filter h]
theorem fileOf_lay_self (f : File) : ∀ l : List File, fileOf (layR f l) f.Name = some f
  | [] => by rw [show layR f [] = [f] from rfl, fileOf_cons, decide_eq_true rfl]; rfl
  | x :: l => by
    unfold layR
    by_cases hx : Less x.Name f.Name
    · rw [decide_eq_true hx, cond_true, fileOf_cons, decide_eq_false hx.ne, cond_false, fileOf_lay_self f l]
    · rw [decide_eq_false hx, cond_false, fileOf_cons, decide_eq_true rfl]; rfl
theorem layR_len (f : File) : ∀ l : List File, (layR f l).length ≤ l.length + 1
  | [] => by simp [layR]
  | x :: l => by
    unfold layR
    cases decide (Less x.Name f.Name) with
    | true => have := layR_len f l; simp; omega
    | false => have := List.length_filter_le (fun y => !decide (y.Name = f.Name)) (x :: l); simp at *; omega
theorem layR_len2 (f : File) : ∀ l : List File, (fileOf l f.Name).isSome = true → (layR f l).length ≤ l.length
  | [], h => by cases h
  | x :: l, h => by
    unfold layR
    by_cases hx : Less x.Name f.Name
    · rw [fileOf_cons, decide_eq_false hx.ne, cond_false] at h
      rw [decide_eq_true hx, cond_true]
      have := layR_len2 f l h
      simp; omega
    · rw [decide_eq_false hx, cond_false]
      obtain ⟨y, hy⟩ := Option.isSome_iff_exists.1 h
      obtain ⟨hm, hn⟩ := fileOf_name hy
      have : ((x :: l).filter (fun y => !decide (y.Name = f.Name))).length < (x :: l).length := List.length_filter_lt_length_iff_exists.2 ⟨y, hm, by simp [hn]⟩
      simp only [List.length_cons] at *; omega
theorem wrap_clock {c : Int} (h0 : 0 ≤ c) (h1 : c ≤ 1099511627776) : IntKind.i64.wrap (c + (1 : Int)) = c + 1 := by
  simp [IntKind.wrap, IntKind.signed, IntKind.bits]
  split <;> omega
theorem layR_app (f : File) (B : List File) : ∀ A : List File, (∀ x, x ∈ A → Less x.Name f.Name) → layR f (A ++ B) = A ++ layR f B
  | [], _ => rfl
  | x :: A, h => by
    show (bif decide (Less x.Name f.Name) then x :: layR f (A ++ B) else _) = _
    rw [decide_eq_true (h x (by simp)), cond_true, layR_app f B A (fun y hy => h y (by simp [hy]))]; rfl
theorem filter_all {l : List File} {s : ByteArray} (h : ∀ x, x ∈ l → x.Name ≠ s) : l.filter (fun y => !decide (y.Name = s)) = l :=
  List.filter_eq_self.2 fun x hx => by simp [h x hx]
theorem fileOf_mem : ∀ {l : List File}, SortedF l → ∀ {x : File}, x ∈ l → fileOf l x.Name = some x
  | [], _, x, h => by cases h
  | y :: l, hs, x, h => by
    obtain ⟨h1, h2⟩ := List.pairwise_cons.1 hs
    rw [fileOf_cons]
    rcases List.mem_cons.1 h with rfl | h
    · rw [decide_eq_true rfl]; rfl
    · rw [decide_eq_false (h1 x h).ne, cond_false]; exact fileOf_mem h2 h
theorem fileOf_isNone {l : List File} {s : ByteArray} (h : fileOf l s = none) : ∀ x, x ∈ l → x.Name ≠ s := fun x hx => by
  unfold fileOf at h
  have := List.find?_eq_none.1 h x hx
  simpa using this
def newD (d : Disk) (s t : ByteArray) : Disk := ⟨d.Clock + 1, layR ⟨s, t, d.Clock + 1⟩ d.Files⟩
def fullB (d : Disk) (s : ByteArray) : Bool := !(fileOf d.Files s).isSome && decide (d.Files.length = 256)
theorem laid_v (d : Disk) (hd : DiskOk d) (f : File) : disk_laid.v d f = some (bif fullB d f.Name then ((⟨(0 : Int), ([] : List File)⟩ : Disk), 22) else ((⟨d.Clock, layR f d.Files⟩ : Disk), 0)) ∧ (layR f d.Files).length = d.Files.length + (bif (fileOf d.Files f.Name).isSome then 0 else 1) := by
  obtain ⟨m, hm, e, hget, A, B, hAB, hAl, hA, hB⟩ := place_v d hd f.Name
  have hl := hd.l
  have hclone : slices_Clone_api_File_api_File.f d.Files = some d.Files := by
    unfold slices_Clone_api_File_api_File.f
    rw [app_all (by simp; omega), Option.bind_some, List.nil_append]
  have hlay : layR f d.Files = A ++ layR f B := by rw [hAB, layR_app f B A hA]
  have hsB : SortedF B := by have := hd.s; rw [hAB] at this; exact (List.pairwise_append.1 this).2.1
  have hfB : fileOf d.Files f.Name = fileOf B f.Name := by rw [hAB]; exact fileOf_app A B f.Name hA
  rw [disk_laid.v_eq, e, Option.bind_some, hclone, Option.bind_some]
  unfold fullB
  cases hf : fileOf d.Files f.Name with
  | some y =>
    have hy := hget y hf
    have hBy : ∃ B', B = y :: B' := by
      rw [hAB, List.getElem?_append_right (by omega), hAl, Nat.sub_self] at hy
      cases B with
      | nil => cases hy
      | cons z B' => exact ⟨B', by rw [show z = y from Option.some.inj hy]⟩
    obtain ⟨B', rfl⟩ := hBy
    have hyn := (fileOf_name hf).2
    obtain ⟨p1, p2⟩ := List.pairwise_cons.1 hsB
    have hlB : layR f (y :: B') = f :: B' := by
      show (bif decide (Less y.Name f.Name) then _ else f :: (y :: B').filter (fun z => !decide (z.Name = f.Name))) = _
      rw [decide_eq_false (hB y (by simp)), cond_false, List.filter_cons, decide_eq_true hyn]
      simp only [Bool.not_true, Bool.false_eq_true, if_false]
      rw [filter_all (fun x hx => fun e => (p1 x hx).ne (hyn.trans e.symm))]
    have hset : d.Files.set m f = A ++ f :: B' := by
      rw [hAB, List.set_append_right _ _ (by omega), hAl, Nat.sub_self]; rfl
    rw [hlay, hlB]
    refine ⟨?_, by rw [hAB]; simp⟩
    simp only [Option.isSome_some, cond_true, idx_some hy, Option.bind_some, Int.toNat_natCast, hset, Bool.not_true, Bool.false_and, cond_false]
  | none =>
    have hno : ∀ x, x ∈ B → x.Name ≠ f.Name := fileOf_isNone (by rw [← hfB]; exact hf)
    have hlB : layR f B = f :: B := by
      cases B with
      | nil => rfl
      | cons z B' =>
        show (bif decide (Less z.Name f.Name) then _ else f :: (z :: B').filter (fun y => !decide (y.Name = f.Name))) = _
        rw [decide_eq_false (hB z (by simp)), cond_false, filter_all hno]
    have hins : slices_Insert_api_File_api_File.f d.Files (m : Int) [f] = some (A ++ f :: B) := by
      unfold slices_Insert_api_File_api_File.f
      simp only
      rw [decide_eq_true (by omega : (0 : Int) ≤ (m : Int)), decide_eq_true (by omega : (m : Int) ≤ (d.Files.length : Int)), show room 40 (d.Files.length + 1) = true from Nat.ble_eq_true_of_le (by omega)]
      simp only [Bool.and_self, cond_true, Int.toNat_natCast]
      rw [hAB, ← hAl, List.take_left' rfl, List.drop_left' rfl]
    rw [hlay, hlB]
    refine ⟨?_, by rw [hAB]; simp; omega⟩
    simp only [Option.isSome_none, cond_false, Bool.not_false, Bool.true_and, show icmp .eql (d.Files.length : Int) (256 : Int) = _ from eql_nat _ 256]
    cases decide (d.Files.length = 256) with
    | true => rfl
    | false => simp only [cond_false, hins, Option.bind_some]
def wcode (d : Disk) (s : ByteArray) : Int := bif fullB d s then 22 else bif decide (d.Clock = 1099511627776) then 23 else 0
theorem written_v (d : Disk) (hd : DiskOk d) (s t : ByteArray) : disk_written.v d s t = some (bif decide (wcode d s = 0) then (newD d s t, 0) else ((⟨(0 : Int), ([] : List File)⟩ : Disk), wcode d s)) := by
  rw [disk_written.v_eq, wrap_clock hd.c0 hd.c1, (laid_v d hd ⟨s, t, d.Clock + 1⟩).1, Option.bind_some]
  have he : icmp .eql d.Clock (1099511627776 : Int) = decide (d.Clock = 1099511627776) := by unfold icmp; rw [Bool.eq_iff_iff]; simp
  unfold wcode
  cases fullB d s with
  | true => rfl
  | false =>
    simp only [cond_false, show icmp .neq (0 : Int) (0 : Int) = false from rfl, he, wrap_clock hd.c0 hd.c1]
    cases decide (d.Clock = 1099511627776) <;> rfl
def writeB (d : Disk) (s t : ByteArray) : Disk × Int := bif diskOk d then (bif nameOk s then (bif decide (t.size ≤ 4096) then (bif decide (wcode d s = 0) then (newD d s t, 0) else ((⟨(0 : Int), ([] : List File)⟩ : Disk), wcode d s)) else (⟨(0 : Int), []⟩, 20)) else (⟨(0 : Int), []⟩, 3)) else (⟨(0 : Int), []⟩, 4)
theorem write_v (d : Disk) (hf : diskFits d) (s t : ByteArray) (hs : s.size ≤ LIM) : disk_Write.v d s t = some (writeB d s t) := by
  rw [disk_Write.v_eq, disk_asked.v_eq, dcheck_v d hf, named_v s hs, gtr_not]
  unfold writeB
  cases h : diskOk d with
  | false => rfl
  | true =>
    cases nameOk s with
    | false => rfl
    | true =>
      by_cases ht : t.size ≤ 4096
      · rw [decide_eq_true ht, decide_eq_true (show (t.size : Int) ≤ 4096 by omega), written_v d ((diskOk_iff d).1 h)]
        cases decide (wcode d s = 0) <;> rfl
      · rw [decide_eq_false ht, decide_eq_false (show ¬ (t.size : Int) ≤ 4096 by omega)]; rfl
theorem wcode_zero {d : Disk} {s : ByteArray} (h : wcode d s = 0) : fullB d s = false ∧ d.Clock ≠ 1099511627776 := by
  unfold wcode at h
  cases h1 : fullB d s with
  | true => rw [h1] at h; cases h
  | false =>
    rw [h1] at h
    exact ⟨rfl, fun e => by rw [e] at h; cases h⟩
theorem new_ok {d : Disk} (hd : DiskOk d) {s t : ByteArray} (hn : nameOk s = true) (ht : t.size ≤ 4096) (hw : wcode d s = 0) : DiskOk (newD d s t) := by
  obtain ⟨h1, h2⟩ := wcode_zero hw
  have hc0 := hd.c0
  have hc1 := hd.c1
  have hl := hd.l
  refine ⟨by show 0 ≤ d.Clock + 1; omega, by show d.Clock + 1 ≤ _; omega, ?_, fun x hx => ?_, layR_sorted _ _ hd.s⟩
  · show (layR _ d.Files).length ≤ 256
    rw [(laid_v d hd ⟨s, t, d.Clock + 1⟩).2]
    show d.Files.length + (bif (fileOf d.Files s).isSome then 0 else 1) ≤ 256
    unfold fullB at h1
    cases hs : (fileOf d.Files s).isSome with
    | true => simp; omega
    | false =>
      rw [hs] at h1
      have : ¬ d.Files.length = 256 := by simpa using h1
      simp; omega
  · rcases layR_mem _ _ _ hx with rfl | hx
    · exact ⟨hn, ht, by show 0 ≤ d.Clock + 1; omega, Int.le_refl _⟩
    · obtain ⟨q1, q2, q3, q4⟩ := hd.f x hx
      exact ⟨q1, q2, q3, by show x.Stamp ≤ d.Clock + 1; omega⟩
def textOf (l : List File) (n : ByteArray) : Option ByteArray := (fileOf l n).map (·.Text)
theorem textOf_lay (f : File) (l : List File) (n : ByteArray) : textOf (layR f l) n = if n = f.Name then some f.Text else textOf l n := by
  unfold textOf
  by_cases h : n = f.Name
  · rw [if_pos h, h, fileOf_lay_self]; rfl
  · rw [if_neg h, fileOf_lay_other f h]
theorem diffs_none {u v : List File} (hu : SortedF u) (h : ∀ n, textOf u n = textOf v n) : diffs u v = [] := by
  unfold diffs
  rw [List.map_eq_nil_iff, List.filter_eq_nil_iff]
  intro x hx
  have h1 := h x.Name
  unfold textOf at h1
  rw [fileOf_mem hu hx] at h1
  unfold diffF
  cases hv : fileOf v x.Name with
  | none => rw [hv] at h1; cases h1
  | some y =>
    rw [hv] at h1
    have : x.Text = y.Text := Option.some.inj h1
    simp [this]
theorem code_same {d : Disk} (hd : DiskOk d) {a b : ByteArray} {s t : ByteArray} (hne : a ≠ b) (ha : wcode d a = 0) (hb : wcode d b = 0) : wcode (newD d a s) b = wcode (newD d b t) a := by
  obtain ⟨a1, _⟩ := wcode_zero ha
  obtain ⟨b1, _⟩ := wcode_zero hb
  have la := (laid_v d hd ⟨a, s, d.Clock + 1⟩).2
  have lb := (laid_v d hd ⟨b, t, d.Clock + 1⟩).2
  have fa : fileOf (newD d a s).Files b = fileOf d.Files b := fileOf_lay_other ⟨a, s, d.Clock + 1⟩ (fun e => hne e.symm) _
  have fb : fileOf (newD d b t).Files a = fileOf d.Files a := fileOf_lay_other ⟨b, t, d.Clock + 1⟩ hne _
  have hfull : fullB (newD d a s) b = fullB (newD d b t) a := by
    unfold fullB at *
    rw [fa, fb, show (newD d a s).Files.length = _ from la, show (newD d b t).Files.length = _ from lb]
    simp only at *
    cases h1 : (fileOf d.Files a).isSome <;> cases h2 : (fileOf d.Files b).isSome <;> simp_all
  unfold wcode
  rw [hfull]; rfl
end Go.Proofs.Ytaeapobjhgakiaa.F
