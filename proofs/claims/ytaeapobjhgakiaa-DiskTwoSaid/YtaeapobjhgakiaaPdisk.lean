/- Disks: whether they are right, and where a file stands. -/
import Derived.Test.YtaeapobjhgakiaaPnames
import Derived.Test.YtaeapobjhgakiaaPord
set_option linter.unusedVariables false
set_option linter.unusedSimpArgs false
set_option linter.unnecessarySimpa false
set_option linter.deprecated false
namespace Go.Proofs.Ytaeapobjhgakiaa.F
open Go Go.RowKit Go.Proofs.Ytaeapobjhgakiaa.Sl
def namedLet (x10 : Int) : Option Bool := (bif icmp .geq x10 (65 : Int) then (bif icmp .leq x10 (90 : Int) then (some (!true)) else (bif icmp .geq x10 (97 : Int) then (bif icmp .leq x10 (122 : Int) then (some (!true)) else (bif icmp .geq x10 (48 : Int) then (bif icmp .leq x10 (57 : Int) then (some (!true)) else ((strings_IndexByte.f (⟨#[95, 45, 46, 47, 43]⟩ : ByteArray) x10).bind fun v20 => some (!(icmp .geq v20 (0 : Int))))) else ((strings_IndexByte.f (⟨#[95, 45, 46, 47, 43]⟩ : ByteArray) x10).bind fun v22 => some (!(icmp .geq v22 (0 : Int)))))) else (bif icmp .geq x10 (48 : Int) then (bif icmp .leq x10 (57 : Int) then (some (!true)) else ((strings_IndexByte.f (⟨#[95, 45, 46, 47, 43]⟩ : ByteArray) x10).bind fun v26 => some (!(icmp .geq v26 (0 : Int))))) else ((strings_IndexByte.f (⟨#[95, 45, 46, 47, 43]⟩ : ByteArray) x10).bind fun v28 => some (!(icmp .geq v28 (0 : Int))))))) else (bif icmp .geq x10 (97 : Int) then (bif icmp .leq x10 (122 : Int) then (some (!true)) else (bif icmp .geq x10 (48 : Int) then (bif icmp .leq x10 (57 : Int) then (some (!true)) else ((strings_IndexByte.f (⟨#[95, 45, 46, 47, 43]⟩ : ByteArray) x10).bind fun v34 => some (!(icmp .geq v34 (0 : Int))))) else ((strings_IndexByte.f (⟨#[95, 45, 46, 47, 43]⟩ : ByteArray) x10).bind fun v36 => some (!(icmp .geq v36 (0 : Int)))))) else (bif icmp .geq x10 (48 : Int) then (bif icmp .leq x10 (57 : Int) then (some (!true)) else ((strings_IndexByte.f (⟨#[95, 45, 46, 47, 43]⟩ : ByteArray) x10).bind fun v40 => some (!(icmp .geq v40 (0 : Int))))) else ((strings_IndexByte.f (⟨#[95, 45, 46, 47, 43]⟩ : ByteArray) x10).bind fun v42 => some (!(icmp .geq v42 (0 : Int)))))))
theorem namedLet_all : ∀ n : Fin 256, namedLet ((UInt8.ofFin n).toNat : Int) = some (!letB (UInt8.ofFin n)) := by decide +kernel
theorem namedLet_v (c : UInt8) : namedLet (c.toNat : Int) = some (!letB c) := namedLet_all c.toFin
theorem named_loop (s : ByteArray) (hs : s.size ≤ LIM) : ∀ j : Nat, j ≤ s.data.toList.length → disk_named.l0.v s j = some (if (s.data.toList.drop j).all letB = true then .ok () else .error false) := fun j hj =>
  up j hj (by rw [disk_named.l0.v_eq, lss_nat, List.drop_length, decide_eq_false (by simp)]; rfl) (fun j hj ih => by
    have hj' : j < s.size := by simpa using hj
    have hv := namedLet_v s.data.toList[j]
    unfold namedLet at hv
    rw [disk_named.l0.v_eq, lss_nat, decide_eq_true hj', cond_true, bidx_nat hj', Option.bind_some, hv, Option.bind_some, wrap_nat (by simp [LIM] at hs; omega), ih, drop_cons hj, List.all_cons]
    cases h : letB s.data.toList[j] <;> simp)
theorem named_v (s : ByteArray) (hs : s.size ≤ LIM) : disk_named.v s = some (nameOk s) := by
  have e1 : icmp .lss (s.size : Int) (1 : Int) = decide (s.size < 1) := lss_nat s.size 1
  have e2 : icmp .gtr (s.size : Int) (64 : Int) = decide (64 < s.size) := gtr_nat s.size 64
  rw [disk_named.v_eq, show disk_named.l0.v s (0 : Int) = _ from named_loop s hs 0 (Nat.zero_le _), List.drop_zero, e1, e2]
  unfold nameOk nameAll
  by_cases h0 : s.size < 1
  · simp [h0, show ¬ 0 < s.size by omega]
  · by_cases h64 : 64 < s.size
    · simp [h0, h64, show ¬ s.size ≤ 64 by omega]
    · simp only [decide_eq_false h0, decide_eq_false h64, cond_false, Option.bind_some, decide_eq_true (show 0 < s.size by omega), decide_eq_true (show s.size ≤ 64 by omega), Bool.true_and]
      cases h : s.data.toList.all letB <;> simp [h]
structure diskFits (d : Disk) : Prop where
  nl : d.Files.length ≤ LIM
  n : ∀ x, x ∈ d.Files → x.Name.size ≤ LIM
def filesB (c : Int) : Option ByteArray → List File → Bool
  | _, [] => true
  | p, x :: xs => nameOk x.Name && (match p with | none => true | some q => decide (Less q x.Name)) && decide (x.Text.size ≤ 4096) && decide (0 ≤ x.Stamp) && decide (x.Stamp ≤ c) && filesB c (some x.Name) xs
def diskOk (d : Disk) : Bool := decide (0 ≤ d.Clock) && decide (d.Clock ≤ 1099511627776) && decide (d.Files.length ≤ 256) && filesB d.Clock none d.Files
theorem dcheck_loop (d : Disk) (hf : diskFits d) : ∀ j : Nat, j ≤ d.Files.length → ∀ last : File, disk_Check.l0.v d (last, (j : Int)) = some (bif filesB d.Clock (if j = 0 then none else some last.Name) (d.Files.drop j) then .ok () else .error 4) := fun j hj =>
  up j hj (fun last => by rw [disk_Check.l0.v_eq, lss_nat, List.drop_length, decide_eq_false (by simp)]; simp [filesB]) (fun j hj ih last => by
    have hl := hf.nl
    have hx := hf.n _ (List.getElem_mem hj)
    have e0 : icmp .gtr (j : Int) (0 : Int) = decide (0 < j) := gtr_nat j 0
    have e1 : icmp .gtr (d.Files[j].Text.size : Int) (4096 : Int) = !decide (d.Files[j].Text.size ≤ 4096) := by rw [gtr_not]; congr 1; rw [Bool.eq_iff_iff]; simp only [decide_eq_true_eq]; omega
    rw [disk_Check.l0.v_eq, lss_nat, decide_eq_true hj, cond_true, idx_nat hj, Option.bind_some, named_v _ hx, Option.bind_some, wrap_nat (by simp [LIM] at hl; omega), ih, drop_cons hj, if_neg (Nat.succ_ne_zero j), scmp_leq, lss_not, gtr_not d.Files[j].Stamp, e1, e0]
    simp only [filesB]
    cases nameOk d.Files[j].Name with
    | false => rfl
    | true =>
      rcases Nat.eq_zero_or_pos j with h0 | h0
      · subst h0
        cases decide (d.Files[0].Text.size ≤ 4096) <;> cases decide (0 ≤ d.Files[0].Stamp) <;> cases decide (d.Files[0].Stamp ≤ d.Clock) <;> rfl
      · rw [decide_eq_true h0, if_neg (show ¬ j = 0 by omega)]
        simp only []
        cases decide (Less last.Name d.Files[j].Name) <;> cases decide (d.Files[j].Text.size ≤ 4096) <;> cases decide (0 ≤ d.Files[j].Stamp) <;> cases decide (d.Files[j].Stamp ≤ d.Clock) <;> rfl)
theorem dbounds (d : Disk) : (bif icmp .lss d.Clock (0 : Int) then (some true) else (bif icmp .gtr d.Clock (1099511627776 : Int) then (some true) else (some (icmp .gtr (d.Files.length : Int) (256 : Int))))) = some (!(decide (0 ≤ d.Clock) && decide (d.Clock ≤ 1099511627776) && decide (d.Files.length ≤ 256))) := by
  have e1 : icmp .gtr (d.Files.length : Int) (256 : Int) = !decide (d.Files.length ≤ 256) := by rw [gtr_not]; congr 1; rw [Bool.eq_iff_iff]; simp only [decide_eq_true_eq]; omega
  rw [lss_not, gtr_not, e1]
  cases decide (0 ≤ d.Clock) <;> cases decide (d.Clock ≤ 1099511627776) <;> rfl
theorem dcheck_v (d : Disk) (hf : diskFits d) : disk_Check.v d = some (bif diskOk d then 0 else 4) := by
  rw [disk_Check.v_eq, dbounds, Option.bind_some, show disk_Check.l0.v d ((⟨ByteArray.empty, ByteArray.empty, (0 : Int)⟩ : File), (0 : Int)) = _ from dcheck_loop d hf 0 (Nat.zero_le _) _, List.drop_zero, if_pos rfl]
  unfold diskOk
  cases decide (0 ≤ d.Clock) && decide (d.Clock ≤ 1099511627776) && decide (d.Files.length ≤ 256) <;> cases filesB d.Clock none d.Files <;> rfl
/-- A file by its name. -/
def fileOf (l : List File) (s : ByteArray) : Option File := l.find? fun x => decide (x.Name = s)
def zFile : File := ⟨ByteArray.empty, ByteArray.empty, (0 : Int)⟩
def SortedF (l : List File) : Prop := l.Pairwise fun a b => Less a.Name b.Name
theorem filesB_iff (c : Int) : ∀ (p : Option ByteArray) (l : List File), filesB c p l = true ↔ (∀ x ∈ l, nameOk x.Name = true ∧ x.Text.size ≤ 4096 ∧ 0 ≤ x.Stamp ∧ x.Stamp ≤ c) ∧ SortedF l ∧ (∀ q, p = some q → ∀ x ∈ l, Less q x.Name)
  | p, [] => by simp [filesB, SortedF]
  | p, x :: xs => by
    simp only [filesB, Bool.and_eq_true, decide_eq_true_eq, filesB_iff c (some x.Name) xs, List.forall_mem_cons, SortedF, List.pairwise_cons]
    constructor
    · rintro ⟨⟨⟨⟨⟨h1, h2⟩, h3⟩, h4⟩, h5⟩, h6, h7, h8⟩
      refine ⟨⟨⟨h1, h3, h4, h5⟩, h6⟩, ⟨fun y hy => h8 _ rfl y hy, h7⟩, ?_⟩
      rintro q rfl
      have h2' : Less q x.Name := by simpa using h2
      exact ⟨h2', fun y hy => h2'.trans (h8 _ rfl y hy)⟩
    · rintro ⟨⟨⟨h1, h3, h4, h5⟩, h6⟩, ⟨h8, h7⟩, h9⟩
      refine ⟨⟨⟨⟨⟨h1, ?_⟩, h3⟩, h4⟩, h5⟩, h6, h7, ?_⟩
      · cases p with
        | none => rfl
        | some q => simpa using (h9 q rfl).1
      · intro q hq y hy
        cases hq
        exact h8 y hy
structure DiskOk (d : Disk) : Prop where
  c0 : 0 ≤ d.Clock
  c1 : d.Clock ≤ 1099511627776
  l : d.Files.length ≤ 256
  f : ∀ x ∈ d.Files, nameOk x.Name = true ∧ x.Text.size ≤ 4096 ∧ 0 ≤ x.Stamp ∧ x.Stamp ≤ d.Clock
  s : SortedF d.Files
theorem diskOk_iff (d : Disk) : diskOk d = true ↔ DiskOk d := by
  unfold diskOk
  simp only [Bool.and_eq_true, decide_eq_true_eq, filesB_iff]
  exact ⟨fun ⟨⟨⟨h1, h2⟩, h3⟩, h4, h5, _⟩ => ⟨h1, h2, h3, h4, h5⟩, fun h => ⟨⟨⟨h.c0, h.c1⟩, h.l⟩, h.f, h.s, fun q hq => by cases hq⟩⟩
/-- A sorted list parts at a name. -/
theorem cut_at (s : ByteArray) : ∀ (l : List File), SortedF l → ∃ A B, l = A ++ B ∧ (∀ x ∈ A, Less x.Name s) ∧ (∀ x ∈ B, ¬ Less x.Name s)
  | [], _ => ⟨[], [], rfl, by simp, by simp⟩
  | x :: xs, h => by
    obtain ⟨h1, h2⟩ := List.pairwise_cons.1 h
    by_cases hx : Less x.Name s
    · obtain ⟨A, B, e, hA, hB⟩ := cut_at s xs h2
      exact ⟨x :: A, B, by rw [e]; rfl, List.forall_mem_cons.2 ⟨hx, hA⟩, hB⟩
    · exact ⟨[], x :: xs, rfl, by simp, List.forall_mem_cons.2 ⟨hx, fun y hy hl => hx ((h1 y hy).trans hl)⟩⟩
theorem bs_loop (l : List File) (s : ByteArray) (f : File → ByteArray → Option Int) (m : Nat) (hm : m ≤ l.length) (hl : l.length ≤ LIM) (c : File → Int) (hfc : ∀ x ∈ l, f x s = some (c x)) (h : ∀ j (hj : j < l.length), c l[j] < 0 ↔ j < m) : ∀ (d i j : Nat), i ≤ m → m ≤ j → j ≤ l.length → j - i ≤ d →
    slices_BinarySearchFunc_api_File_api_File_string.l0.v l s f ((i : Int), (j : Int)) = some (m : Int)
  | d, i, j, h1, h2, h3, hd => by
    rw [slices_BinarySearchFunc_api_File_api_File_string.l0.v_eq, lss_nat]
    by_cases hlt : i < j
    · cases d with
      | zero => omega
      | succ d =>
        have hk : (i + j) / 2 < l.length := by omega
        rw [decide_eq_true hlt, cond_true]
        simp only []
        rw [mid_nat (by simp [LIM] at hl; omega), idx_nat hk, Option.bind_some, hfc _ (List.getElem_mem hk), Option.bind_some]
        have hc := h _ hk
        have e0 : icmp .lss (c l[(i + j) / 2]) (0 : Int) = decide (c l[(i + j) / 2] < 0) := by unfold icmp; rfl
        rw [e0]
        by_cases hcc : c l[(i + j) / 2] < 0
        · rw [decide_eq_true hcc, cond_true, wrap_nat (by simp [LIM] at hl; omega)]
          exact bs_loop l s f m hm hl c hfc h d _ _ (by have := hc.1 hcc; omega) h2 h3 (by omega)
        · rw [decide_eq_false hcc, cond_false]
          exact bs_loop l s f m hm hl c hfc h d _ _ h1 (by have := fun h => hcc (hc.2 h); omega) (by omega) (by omega)
    · rw [decide_eq_false hlt, cond_false]
      have : i = m := by omega
      rw [this]
theorem place1_v (x : File) (s : ByteArray) : disk_place_1.f x s = some (Lib.compareBytes x.Name.data.toList s.data.toList) := rfl
theorem fileOf_app (A B : List File) (s : ByteArray) (hA : ∀ x ∈ A, Less x.Name s) : fileOf (A ++ B) s = fileOf B s := by
  unfold fileOf
  rw [List.find?_append]
  have : A.find? (fun x => decide (x.Name = s)) = none := by
    rw [List.find?_eq_none]
    intro x hx
    simp only [decide_eq_true_eq]
    exact (hA x hx).ne
  rw [this]; rfl
theorem place_v (d : Disk) (hd : DiskOk d) (s : ByteArray) : ∃ m : Nat, m ≤ d.Files.length ∧ disk_place.v d s = some ((m : Int), (fileOf d.Files s).isSome) ∧ (∀ y, fileOf d.Files s = some y → d.Files[m]? = some y) ∧ (∃ A B, d.Files = A ++ B ∧ A.length = m ∧ (∀ x ∈ A, Less x.Name s) ∧ (∀ x ∈ B, ¬ Less x.Name s)) := by
  obtain ⟨A, B, e, hA, hB⟩ := cut_at s d.Files hd.s
  have hl := hd.l
  have hloop := bs_loop d.Files s (fun z0 z1 => disk_place_1.f z0 z1) A.length (by rw [e]; simp) (by simp [LIM]; omega) (fun x => Lib.compareBytes x.Name.data.toList s.data.toList) (fun x _ => place1_v x s) (fun j hj => by
    rw [cmp_less]
    by_cases hjA : j < A.length
    · refine ⟨fun _ => hjA, fun _ => ?_⟩
      have : d.Files[j] = A[j] := by simp only [e]; rw [List.getElem_append_left hjA]
      rw [this]; exact hA _ (List.getElem_mem hjA)
    · refine ⟨fun h => ?_, fun h => absurd h hjA⟩
      have hjB : j - A.length < B.length := by rw [e, List.length_append] at hj; omega
      have : d.Files[j] = B[j - A.length] := by simp only [e]; rw [List.getElem_append_right (by omega)]
      rw [this] at h
      exact absurd h (hB _ (List.getElem_mem hjB))) (d.Files.length) 0 d.Files.length (Nat.zero_le _) (by rw [e]; simp) (Nat.le_refl _) (by omega)
  refine ⟨A.length, by rw [e]; simp, ?_, ?_, A, B, e, rfl, hA, hB⟩
  · rw [disk_place.v_eq, slices_BinarySearchFunc_api_File_api_File_string.v_eq, show slices_BinarySearchFunc_api_File_api_File_string.l0.v d.Files s (fun z0 z1 => disk_place_1.f z0 z1) ((0 : Int), (d.Files.length : Int)) = _ from hloop]
    simp only [Option.bind_some]
    rw [lss_nat]
    cases B with
    | nil =>
      have : ¬ A.length < d.Files.length := by rw [e]; simp
      rw [decide_eq_false this, cond_false]
      simp only [Option.bind_some]
      rw [e, fileOf_app A [] s hA]; rfl
    | cons y B =>
      have hlt : A.length < d.Files.length := by rw [e]; simp
      have hy : d.Files[A.length] = y := by simp only [e]; rw [List.getElem_append_right (Nat.le_refl _)]; simp
      rw [decide_eq_true hlt, cond_true, idx_nat hlt, Option.bind_some, hy, place1_v, Option.bind_some]
      simp only [Option.bind_some]
      congr 2
      rw [e, fileOf_app A _ s hA]
      have e1 : icmp .eql (Lib.compareBytes y.Name.data.toList s.data.toList) (0 : Int) = decide (y.Name = s) := by
        have := cmp_same y.Name s
        unfold icmp
        rw [Bool.eq_iff_iff, decide_eq_true_eq, ← this]
        simp
      rw [e1]
      by_cases hys : y.Name = s
      · rw [decide_eq_true hys]; simp [fileOf, hys]
      · rw [decide_eq_false hys]
        have hnone : fileOf (y :: B) s = none := by
          unfold fileOf
          rw [List.find?_eq_none]
          intro x hx
          simp only [decide_eq_true_eq]
          rcases List.mem_cons.1 hx with rfl | hx
          · exact hys
          · have h3 : Less y.Name x.Name := by
              have hs := hd.s
              rw [e] at hs
              exact (List.pairwise_cons.1 (List.pairwise_append.1 hs).2.1).1 x hx
            intro hxs
            rw [hxs] at h3
            exact hB y (by simp) h3
        rw [hnone]; rfl
  · intro y hy
    rw [e, fileOf_app A B s hA] at hy
    cases B with
    | nil => cases hy
    | cons z B =>
      have : z = y := by
        unfold fileOf at hy
        rw [List.find?_cons] at hy
        by_cases hz : z.Name = s
        · rw [decide_eq_true hz] at hy; exact Option.some.inj hy
        · rw [decide_eq_false hz] at hy
          have hm := List.mem_of_find?_eq_some hy
          have hp := List.find?_some hy
          simp only [decide_eq_true_eq] at hp
          have h3 : Less z.Name y.Name := by
            have hs := hd.s
            rw [e] at hs
            exact (List.pairwise_cons.1 (List.pairwise_append.1 hs).2.1).1 y hm
          rw [hp] at h3
          exact absurd h3 (hB z (by simp))
      subst this
      rw [e, List.getElem?_append_right (Nat.le_refl _)]; simp
theorem asked_dv (d : Disk) (hf : diskFits d) (s : ByteArray) (hs : s.size ≤ LIM) : disk_asked.v d s = some (bif diskOk d then (bif nameOk s then 0 else 3) else 4) := by
  rw [disk_asked.v_eq, dcheck_v d hf, Option.bind_some, named_v s hs]
  cases diskOk d <;> cases nameOk s <;> rfl
theorem fileOf_name {l : List File} {s : ByteArray} {y : File} (h : fileOf l s = some y) : y ∈ l ∧ y.Name = s := by
  have := List.find?_some h
  exact ⟨List.mem_of_find?_eq_some h, by simpa using this⟩
/-- disk.Find on a right disk. -/
theorem find_v (d : Disk) (hf : diskFits d) (hd : DiskOk d) (s : ByteArray) (hs : s.size ≤ LIM) : disk_Find.v d s = some ((fileOf d.Files s).getD zFile, bif nameOk s then (bif (fileOf d.Files s).isSome then 0 else 21) else 3) := by
  rw [disk_Find.v_eq, asked_dv d hf s hs, (diskOk_iff d).2 hd]
  obtain ⟨m, _, h1, h2, _⟩ := place_v d hd s
  cases hn : nameOk s with
  | false =>
    have : fileOf d.Files s = none := by
      cases h : fileOf d.Files s with
      | none => rfl
      | some y =>
        obtain ⟨hy, rfl⟩ := fileOf_name h
        rw [(hd.f y hy).1] at hn; cases hn
    rw [this]; rfl
  | true =>
    simp only [cond_true, Option.bind_some]
    rw [h1]
    cases h : fileOf d.Files s with
    | none => rfl
    | some y =>
      have e : idx d.Files (m : Int) = some y := by
        have := h2 y h
        unfold idx
        rw [if_neg (by omega)]
        simpa using this
      simp only [Option.bind_some, Option.isSome_some, Bool.not_true, cond_false, cond_true, e]
      rfl
end Go.Proofs.Ytaeapobjhgakiaa.F
