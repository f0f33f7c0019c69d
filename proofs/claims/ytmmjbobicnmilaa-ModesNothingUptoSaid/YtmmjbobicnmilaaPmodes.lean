/- Options, and what becomes of a line: modes. -/
import Derived.Test.YtmmjbobicnmilaaPalone19
import Derived.Laws.RangeAny
set_option linter.unusedVariables false
set_option linter.unusedSimpArgs false
set_option linter.unnecessarySimpa false
set_option linter.deprecated false
namespace Go.Proofs.Ytmmjbobicnmilaa.F
open Go Go.RowKit Go.Proofs.Ytmmjbobicnmilaa.Sl
/-! ### a macro's name -/
def macLet (c : UInt8) : Bool := !(macro_Name_1.f (c.toNat : Int)).getD true
theorem macLet_all : ∀ n : Fin 256, macro_Name_1.f ((UInt8.ofFin n).toNat : Int) = some (!macLet (UInt8.ofFin n)) := by decide +kernel
theorem macLet_v (c : UInt8) : macro_Name_1.f (c.toNat : Int) = some (!macLet c) := macLet_all c.toFin
theorem macLet_small : ∀ n : Fin 256, macLet (UInt8.ofFin n) = true → (UInt8.ofFin n).toNat < 128 := by decide +kernel
theorem other_big {z : Int} (h : 128 ≤ z) : macro_Name_1.f z = some true := by
  have a1 : icmp .geq z (97 : Int) = true := by unfold icmp; exact decide_eq_true (by omega)
  have a2 : icmp .leq z (122 : Int) = false := by unfold icmp; exact decide_eq_false (by omega)
  have a3 : icmp .geq z (65 : Int) = true := by unfold icmp; exact decide_eq_true (by omega)
  have a4 : icmp .leq z (90 : Int) = false := by unfold icmp; exact decide_eq_false (by omega)
  have a5 : icmp .geq z (48 : Int) = true := by unfold icmp; exact decide_eq_true (by omega)
  have a6 : icmp .leq z (57 : Int) = false := by unfold icmp; exact decide_eq_false (by omega)
  have a7 : icmp .eql z (95 : Int) = false := by unfold icmp; simp; omega
  have a8 : icmp .eql z (46 : Int) = false := by unfold icmp; simp; omega
  unfold macro_Name_1.f
  simp only [a1, a2, a3, a4, a5, a6, a7, a8, cond_true, cond_false, Option.bind_some, Bool.not_false]
theorem index_loop19 (s : ByteArray) : ∀ j : Nat, j ≤ s.data.toList.length → ∃ r, strings_indexFunc.l0.v s (fun z0 => macro_Name_1.f z0) true j = some r ∧ (match r with | .ok _ => (s.data.toList.drop j).all macLet = true | .error i => (0 : Int) ≤ i ∧ (s.data.toList.drop j).all macLet = false) := fun j hj =>
  up j hj ⟨.ok (), by rw [strings_indexFunc.l0.v_eq, decide_eq_false (by simp)]; rfl, by rw [List.drop_length]; rfl⟩ (fun j hj ih => by
    have hj' : j < s.size := by simpa using hj
    have hg : s[j]'hj' = s.data.toList[j] := rfl
    rw [strings_indexFunc.l0.v_eq, decide_eq_true hj', cond_true, drop_cons hj, List.all_cons]
    by_cases hs : (s[j]'hj').toNat < 128
    · rw [decode_ascii s j hj' hs]
      show ∃ r, ((macro_Name_1.f ((s[j]'hj').toNat : Int)).bind fun v6 => bif (v6 == true) then (some (Except.error (j : Int))) else (strings_indexFunc.l0.v s (fun z0 => macro_Name_1.f z0) true (nxPos s j))) = some r ∧ _
      rw [macLet_v, Option.bind_some, hg]
      cases hm : macLet s.data.toList[j] with
      | false => exact ⟨.error (j : Int), rfl, by omega, rfl⟩
      | true =>
        have hn : nxPos s j = j + 1 := by unfold nxPos; rw [decide_eq_true hj', cond_true, decode_ascii s j hj' hs]
        rw [hn, Bool.true_and]
        exact ih
    · have hd := (decode_high s j hj' (by omega)).1
      rw [other_big (by omega), Option.bind_some]
      have hm : macLet s.data.toList[j] = false := by
        cases h : macLet s.data.toList[j] with
        | false => rfl
        | true => exact absurd (macLet_small s.data.toList[j].toFin h) hs
      rw [hm]
      exact ⟨.error (j : Int), rfl, by omega, rfl⟩)
def macName (s : ByteArray) : Bool := decide (0 < s.size) && decide (s.size ≤ 64) && s.data.toList.all macLet
theorem contains19_v (s : ByteArray) : strings_ContainsFunc.v s (fun z0 => macro_Name_1.f z0) = some (!s.data.toList.all macLet) := by
  obtain ⟨r, e, h⟩ := index_loop19 s 0 (Nat.zero_le _)
  rw [List.drop_zero] at h
  rw [strings_ContainsFunc.v_eq, strings_IndexFunc.v_eq, strings_indexFunc.v_eq, show strings_indexFunc.l0.v s (fun z0 => macro_Name_1.f z0) true (0 : Nat) = _ from e, Option.bind_some]
  cases r with
  | ok _ => rw [h]; rfl
  | error i =>
    rw [h.2]
    have e2 : icmp .geq i (0 : Int) = true := by unfold icmp; exact decide_eq_true h.1
    simp [e2]
theorem mname_v (s : ByteArray) : macro_Name.v s = some (macName s) := by
  rw [macro_Name.v_eq, contains19_v, show icmp .gtr (s.size : Int) (0 : Int) = _ from gtr_nat _ 0, show icmp .leq (s.size : Int) (64 : Int) = _ from leq_nat _ 64]
  unfold macName
  cases decide (0 < s.size) <;> cases decide (s.size ≤ 64) <;> simp
def ref05Let (x10 : Int) : Option Bool := (bif icmp .geq x10 (65 : Int) then (bif icmp .leq x10 (90 : Int) then (some (!true)) else (bif icmp .geq x10 (97 : Int) then (bif icmp .leq x10 (122 : Int) then (some (!true)) else (bif icmp .geq x10 (48 : Int) then (bif icmp .leq x10 (57 : Int) then (some (!true)) else (bif icmp .eql x10 (95 : Int) then (some (!true)) else (some (!(icmp .eql x10 (46 : Int)))))) else (bif icmp .eql x10 (95 : Int) then (some (!true)) else (some (!(icmp .eql x10 (46 : Int))))))) else (bif icmp .geq x10 (48 : Int) then (bif icmp .leq x10 (57 : Int) then (some (!true)) else (bif icmp .eql x10 (95 : Int) then (some (!true)) else (some (!(icmp .eql x10 (46 : Int)))))) else (bif icmp .eql x10 (95 : Int) then (some (!true)) else (some (!(icmp .eql x10 (46 : Int)))))))) else (bif icmp .geq x10 (97 : Int) then (bif icmp .leq x10 (122 : Int) then (some (!true)) else (bif icmp .geq x10 (48 : Int) then (bif icmp .leq x10 (57 : Int) then (some (!true)) else (bif icmp .eql x10 (95 : Int) then (some (!true)) else (some (!(icmp .eql x10 (46 : Int)))))) else (bif icmp .eql x10 (95 : Int) then (some (!true)) else (some (!(icmp .eql x10 (46 : Int))))))) else (bif icmp .geq x10 (48 : Int) then (bif icmp .leq x10 (57 : Int) then (some (!true)) else (bif icmp .eql x10 (95 : Int) then (some (!true)) else (some (!(icmp .eql x10 (46 : Int)))))) else (bif icmp .eql x10 (95 : Int) then (some (!true)) else (some (!(icmp .eql x10 (46 : Int))))))))
theorem ref05_all : ∀ n : Fin 256, ref05Let ((UInt8.ofFin n).toNat : Int) = some (!macLet (UInt8.ofFin n)) := by decide +kernel
theorem ref05_v (c : UInt8) : ref05Let (c.toNat : Int) = some (!macLet c) := ref05_all c.toFin
theorem ref05_step (a0 : ByteArray) (s5 : Int) : smithyref05_Name.l0.v a0 s5 = bif icmp .lss s5 (a0.size : Int) then ((bidx a0 s5).bind fun x10 => (ref05Let x10).bind fun s => bif s then (some (Except.error false)) else (smithyref05_Name.l0.v a0 (IntKind.i64.wrap (s5 + (1 : Int))))) else (some (Except.ok ())) := smithyref05_Name.l0.v_eq a0 s5
theorem ref05_loop (s : ByteArray) (hs : s.size ≤ LIM) : ∀ j : Nat, j ≤ s.data.toList.length → smithyref05_Name.l0.v s j = some (bif (s.data.toList.drop j).all macLet then .ok () else .error false) := fun j hj =>
  up j hj (by rw [ref05_step, lss_nat, List.drop_length, decide_eq_false (by simp)]; rfl) (fun j hj ih => by
    have hj' : j < s.size := by simpa using hj
    rw [ref05_step, lss_nat, decide_eq_true hj', cond_true, bidx_nat hj', Option.bind_some, ref05_v, Option.bind_some, wrap_nat (by simp [LIM] at hs; omega), ih, drop_cons hj, List.all_cons]
    cases macLet s.data.toList[j] <;> rfl)
theorem rname_v (s : ByteArray) (hs : s.size ≤ LIM) : smithyref05_Name.v s = some (macName s) := by
  rw [smithyref05_Name.v_eq, show smithyref05_Name.l0.v s (0 : Int) = _ from ref05_loop s hs 0 (Nat.zero_le _), List.drop_zero, show icmp .lss (s.size : Int) (1 : Int) = _ from lss_nat _ 1, show icmp .gtr (s.size : Int) (64 : Int) = _ from gtr_nat _ 64]
  unfold macName
  have g1 : decide (s.size < 1) = !decide (0 < s.size) := by rw [Bool.eq_iff_iff]; simp
  have g2 : decide (64 < s.size) = !decide (s.size ≤ 64) := by rw [Bool.eq_iff_iff]; simp
  rw [g1, g2]
  cases decide (0 < s.size) <;> cases decide (s.size ≤ 64) <;> cases s.data.toList.all macLet <;> rfl
/-! ### one macro, and several -/
def oneB (m : Macro) : Int := bif !macName m.Name then 50 else bif (icmp .lss m.Level (0 : Int) || icmp .gtr m.Level (2 : Int)) then 51 else bif icmp .gtr (m.Value.size : Int) (8192 : Int) then 41 else 0
theorem one_v (m : Macro) : macro_one.v m = some (oneB m) := by
  rw [macro_one.v_eq, mname_v, Option.bind_some]
  unfold oneB
  cases macName m.Name <;> cases icmp .lss m.Level (0 : Int) <;> cases icmp .gtr m.Level (2 : Int) <;> cases icmp .gtr (m.Value.size : Int) (8192 : Int) <;> rfl
theorem rone_v (m : Macro) (hs : m.Name.size ≤ LIM) : smithyref05_One.v m = some (oneB m) := by
  rw [smithyref05_One.v_eq, rname_v _ hs, Option.bind_some]
  unfold oneB
  cases macName m.Name <;> cases icmp .lss m.Level (0 : Int) <;> cases icmp .gtr m.Level (2 : Int) <;> cases icmp .gtr (m.Value.size : Int) (8192 : Int) <;> rfl
theorem eql_neq (w : Int) : icmp .eql w (0 : Int) = !icmp .neq w (0 : Int) := by
  unfold icmp; rw [Bool.eq_iff_iff]; simp
theorem neq_dec (w : Int) : icmp .neq w (0 : Int) = !decide (w = 0) := by
  unfold icmp; rw [Bool.eq_iff_iff]; simp
theorem single_v (m : Macro) : macro_Check.v [m] = some (oneB m) := by
  have h0 : macro_Check.l0.v [m] (0 : Int) = some (bif icmp .neq (oneB m) (0 : Int) then .error (oneB m) else .ok ()) := by
    rw [macro_Check.l0.v_eq, show icmp .lss (0 : Int) (([m] : List Macro).length : Int) = true from rfl, cond_true, show idx [m] (0 : Int) = some m from rfl, Option.bind_some, one_v, Option.bind_some, show IntKind.i64.wrap ((0 : Int) + 1) = 1 from rfl]
    rw [macro_Check.l0.v_eq, show icmp .lss (1 : Int) (([m] : List Macro).length : Int) = false from rfl, cond_false]
    cases icmp .neq (oneB m) (0 : Int) <;> rfl
  have h1 : macro_Check.l1.v [m] (0 : Int) = some (.ok ()) := by
    rw [macro_Check.l1.v_eq, show icmp .lss (0 : Int) (([m] : List Macro).length : Int) = true from rfl, cond_true, show icmp .gtr (0 : Int) (0 : Int) = false from rfl, cond_false, Option.bind_some, cond_false, show IntKind.i64.wrap ((0 : Int) + 1) = 1 from rfl]
    rw [macro_Check.l1.v_eq, show icmp .lss (1 : Int) (([m] : List Macro).length : Int) = false from rfl, cond_false]
  rw [macro_Check.v_eq, show icmp .gtr (([m] : List Macro).length : Int) (256 : Int) = false from rfl, cond_false, h0, Option.bind_some, h1]
  by_cases h : oneB m = 0
  · rw [neq_dec, decide_eq_true h, h]; rfl
  · rw [neq_dec, decide_eq_false h]; rfl
def lev (m : Macro) : Macro := { m with Level := (2 : Int) }
def macsB : List Macro → Int
  | [] => 0
  | x :: xs => bif decide (oneB (lev x) = 0) then macsB xs else oneB (lev x)
/-! ### options -/
structure optFits (o : Options) : Prop where
  fl : o.Files.length ≤ LIM
  f : ∀ x, x ∈ o.Files → x.size ≤ LIM
  gl : o.Goals.length ≤ LIM
  g : ∀ x, x ∈ o.Goals → x.size ≤ LIM
  ml : o.Macros.length ≤ LIM
  m : ∀ x, x ∈ o.Macros → x.Name.size ≤ LIM
theorem macs_loop (o : Options) (hf : optFits o) : ∀ j : Nat, j ≤ o.Macros.length → modes_Check.l0.v o (j : Int) = some (bif decide (macsB (o.Macros.drop j) = 0) then .ok () else .error (macsB (o.Macros.drop j))) := fun j hj =>
  up j hj (by rw [modes_Check.l0.v_eq, lss_nat, List.drop_length, decide_eq_false (by simp)]; rfl) (fun j hj ih => by
    have hl := hf.ml
    rw [modes_Check.l0.v_eq, lss_nat, decide_eq_true hj, cond_true, idx_nat hj, Option.bind_some, single_v, Option.bind_some, wrap_nat (by simp [LIM] at hl; omega), ih, drop_cons hj, neq_dec]
    show (bif !decide (oneB (lev o.Macros[j]) = 0) then some (Except.error (oneB (lev o.Macros[j]))) else _) = _
    by_cases h : oneB (lev o.Macros[j]) = 0
    · simp only [macsB, decide_eq_true h, Bool.not_true, cond_false, cond_true]
    · simp only [macsB, decide_eq_false h, Bool.not_false, cond_false, cond_true])
theorem rmacs_loop (o : Options) (hf : optFits o) : ∀ j : Nat, j ≤ o.Macros.length → ∀ e : Int, smithyref19_Check.l0.v o (e, (j : Int)) = some (bif decide (e = 0) then macsB (o.Macros.drop j) else e) := fun j hj =>
  up j hj (fun e => by
    rw [smithyref19_Check.l0.v_eq, lss_nat, List.drop_length, decide_eq_false (by simp)]
    by_cases h : e = 0
    · rw [h]; rfl
    · rw [decide_eq_false h]; rfl) (fun j hj ih e => by
    have hl := hf.ml
    rw [smithyref19_Check.l0.v_eq, lss_nat, decide_eq_true hj, cond_true, idx_nat hj, Option.bind_some, wrap_nat (by simp [LIM] at hl; omega), drop_cons hj, eql_neq, neq_dec]
    have e1 : smithyref05_One.v ({ o.Macros[j] with Level := (2 : Int) } : Macro) = some (oneB (lev o.Macros[j])) := rone_v (lev o.Macros[j]) (hf.m o.Macros[j] (List.getElem_mem hj))
    by_cases h : e = 0
    · simp only [decide_eq_true h, Bool.not_true, Bool.not_false, cond_true, e1, Option.bind_some, ih, macsB]
    · simp only [decide_eq_false h, Bool.not_true, Bool.not_false, cond_false, Option.bind_some, ih])
def namesB (l : List ByteArray) (m : Int) : Int := bif icmp .gtr (l.length : Int) m then 2 else bif l.all nameOk then 0 else 3
theorem mlist_loop (l : List ByteArray) (hl : l.length ≤ LIM) (hs : ∀ x, x ∈ l → x.size ≤ LIM) : ∀ j : Nat, j ≤ l.length → modes_list.l0.v l (j : Int) = some (bif (l.drop j).all nameOk then .ok () else .error 3) := fun j hj =>
  up j hj (by rw [modes_list.l0.v_eq, lss_nat, List.drop_length, decide_eq_false (by simp)]; rfl) (fun j hj ih => by
    rw [modes_list.l0.v_eq, lss_nat, decide_eq_true hj, cond_true, idx_nat hj, Option.bind_some, check_v _ (hs _ (List.getElem_mem hj)), Option.bind_some, wrap_nat (by simp [LIM] at hl; omega), ih, drop_cons hj, List.all_cons]
    cases nameOk l[j] <;> rfl)
theorem mlist_v (l : List ByteArray) (hl : l.length ≤ LIM) (hs : ∀ x, x ∈ l → x.size ≤ LIM) (m : Int) : modes_list.v l m = some (namesB l m) := by
  rw [modes_list.v_eq, show modes_list.l0.v l (0 : Int) = _ from mlist_loop l hl hs 0 (Nat.zero_le _), List.drop_zero]
  unfold namesB
  cases icmp .gtr (l.length : Int) m <;> cases l.all nameOk <;> rfl
theorem letter03_all : ∀ n : Fin 256, smithyref03_letter.f ((UInt8.ofFin n).toNat : Int) = some (letB (UInt8.ofFin n)) := by decide +kernel
theorem letter03_v (c : UInt8) : smithyref03_letter.f (c.toNat : Int) = some (letB c) := letter03_all c.toFin
theorem is_loop (s : ByteArray) (hs : s.size ≤ LIM) : ∀ j : Nat, j ≤ s.data.toList.length → smithyref03_Is.l0.v s j = some (bif (s.data.toList.drop j).all letB then .ok () else .error false) := fun j hj =>
  up j hj (by rw [smithyref03_Is.l0.v_eq, lss_nat, List.drop_length, decide_eq_false (by simp)]; rfl) (fun j hj ih => by
    have hj' : j < s.size := by simpa using hj
    rw [smithyref03_Is.l0.v_eq, lss_nat, decide_eq_true hj', cond_true, bidx_nat hj', Option.bind_some, letter03_v, Option.bind_some, wrap_nat (by simp [LIM] at hs; omega), ih, drop_cons hj, List.all_cons]
    cases letB s.data.toList[j] <;> rfl)
theorem is_v (s : ByteArray) (hs : s.size ≤ LIM) : smithyref03_Is.v s = some (nameOk s) := by
  rw [smithyref03_Is.v_eq, show smithyref03_Is.l0.v s (0 : Int) = _ from is_loop s hs 0 (Nat.zero_le _), List.drop_zero, show icmp .lss (s.size : Int) (1 : Int) = _ from lss_nat _ 1, show icmp .gtr (s.size : Int) (64 : Int) = _ from gtr_nat _ 64]
  unfold nameOk nameAll
  have g1 : decide (s.size < 1) = !decide (0 < s.size) := by rw [Bool.eq_iff_iff]; simp
  have g2 : decide (64 < s.size) = !decide (s.size ≤ 64) := by rw [Bool.eq_iff_iff]; simp
  rw [g1, g2]
  cases decide (0 < s.size) <;> cases decide (s.size ≤ 64) <;> cases s.data.toList.all letB <;> rfl
theorem rnames_loop (l : List ByteArray) (hl : l.length ≤ LIM) (hs : ∀ x, x ∈ l → x.size ≤ LIM) : ∀ j : Nat, j ≤ l.length → smithyref19_names.l0.v l (j : Int) = some (bif (l.drop j).all nameOk then .ok () else .error 3) := fun j hj =>
  up j hj (by rw [smithyref19_names.l0.v_eq, lss_nat, List.drop_length, decide_eq_false (by simp)]; rfl) (fun j hj ih => by
    rw [smithyref19_names.l0.v_eq, lss_nat, decide_eq_true hj, cond_true, idx_nat hj, Option.bind_some, is_v _ (hs _ (List.getElem_mem hj)), Option.bind_some, wrap_nat (by simp [LIM] at hl; omega), ih, drop_cons hj, List.all_cons]
    cases nameOk l[j] <;> rfl)
theorem rnames_v (l : List ByteArray) (hl : l.length ≤ LIM) (hs : ∀ x, x ∈ l → x.size ≤ LIM) (m : Int) : smithyref19_names.v l m = some (namesB l m) := by
  rw [smithyref19_names.v_eq, show smithyref19_names.l0.v l (0 : Int) = _ from rnames_loop l hl hs 0 (Nat.zero_le _), List.drop_zero]
  unfold namesB
  cases icmp .gtr (l.length : Int) m <;> cases l.all nameOk <;> rfl
/-- How many of three are set. -/
def cnt3 (a b c : Bool) : Int := (bif a then 1 else 0) + ((bif b then 1 else 0) + (bif c then 1 else 0))
theorem set_v (a b c : Bool) : modes_set.v [a, b, c] = some (cnt3 a b c) := by
  cases a <;> cases b <;> cases c <;> exact (modes_set.tends _).at 10 (by kernel_rfl)
def badO (o : Options) : Bool := icmp .lss o.Slots (1 : Int) || icmp .gtr o.Slots (8 : Int) || icmp .gtr (cnt3 o.Dry o.Touch o.Query) (1 : Int)
def chkB (o : Options) : Int := bif badO o then 1 else bif !decide (namesB o.Files 64 = 0) then namesB o.Files 64 else bif !decide (namesB o.Goals 512 = 0) then namesB o.Goals 512 else bif icmp .gtr (o.Macros.length : Int) (256 : Int) then 2 else macsB o.Macros
theorem two_v (a b c : Bool) : smithyref19_two.f a b c = some (icmp .gtr (cnt3 a b c) (1 : Int)) := by cases a <;> cases b <;> cases c <;> rfl
theorem chk19_v (o : Options) (hf : optFits o) : modes_Check.v o = some (chkB o) := by
  rw [modes_Check.v_eq, set_v, mlist_v _ hf.fl hf.f, mlist_v _ hf.gl hf.g, show modes_Check.l0.v o (0 : Int) = _ from macs_loop o hf 0 (Nat.zero_le _), List.drop_zero]
  unfold chkB badO
  simp only [Option.bind_some, neq_dec]
  cases icmp .lss o.Slots (1 : Int) <;> cases icmp .gtr o.Slots (8 : Int) <;> cases icmp .gtr (cnt3 o.Dry o.Touch o.Query) (1 : Int) <;> first
    | rfl
    | (cases decide (namesB o.Files 64 = 0) <;> cases decide (namesB o.Goals 512 = 0) <;> cases icmp .gtr (o.Macros.length : Int) (256 : Int) <;> first
        | rfl
        | (by_cases h : macsB o.Macros = 0
           · rw [decide_eq_true h, h]; rfl
           · rw [decide_eq_false h]; rfl))
theorem rchk19_v (o : Options) (hf : optFits o) : smithyref19_Check.v o = some (chkB o) := by
  rw [smithyref19_Check.v_eq, two_v, rnames_v _ hf.fl hf.f, rnames_v _ hf.gl hf.g]
  unfold chkB badO
  simp only [Option.bind_some, eql_neq, neq_dec, Bool.not_not]
  have hm : ∀ e : Int, smithyref19_Check.l0.v o (e, (0 : Int)) = some (bif decide (e = 0) then macsB o.Macros else e) := fun e => by
    have := rmacs_loop o hf 0 (Nat.zero_le _) e
    rw [List.drop_zero] at this
    exact this
  cases icmp .lss o.Slots (1 : Int) <;> cases icmp .gtr o.Slots (8 : Int) <;> cases icmp .gtr (cnt3 o.Dry o.Touch o.Query) (1 : Int) <;> first
    | rfl
    | (by_cases h1 : namesB o.Files 64 = 0
       · by_cases h2 : namesB o.Goals 512 = 0
         · simp only [h1, h2, decide_true, cond_true, cond_false, Option.bind_some, Bool.not_true, Bool.or_false, Bool.or_self]
           cases icmp .gtr (o.Macros.length : Int) (256 : Int) with
           | true => simp only [cond_true, Option.bind_some, hm]; rfl
           | false => simp only [cond_false, Option.bind_some, hm]; rfl
         · simp only [h1, decide_true, decide_eq_false h2, cond_true, cond_false, Option.bind_some, Bool.not_true, Bool.not_false, Bool.or_false, Bool.or_self, hm]
       · simp only [decide_eq_false h1, cond_true, cond_false, Option.bind_some, Bool.not_true, Bool.not_false, Bool.or_false, Bool.or_self, hm])
/-! ### what becomes of a line -/
def modeB (o : Options) (n : Node) (f : Flags) : Mode := ⟨o.Dry || ((!(o.Dry || o.Touch || o.Query) || f.Always) && !(f.Silent || o.Silent || n.Silent)), !(o.Dry || o.Touch || o.Query) || f.Always, f.Ignore || o.Ignore || n.Ignore⟩
def askB (o : Options) (n : Node) : Int := bif !decide (chkB o = 0) then chkB o else bif nodeB n then 0 else 7
def ofB (o : Options) (n : Node) (f : Flags) : Mode × Int := bif !decide (askB o n = 0) then (⟨false, false, false⟩, askB o n) else (modeB o n f, 0)
theorem cnt_zero (a b c : Bool) : icmp .eql (cnt3 a b c) (0 : Int) = !(a || b || c) := by cases a <;> cases b <;> cases c <;> rfl
theorem of_v (o : Options) (hf : optFits o) (n : Node) (hn : nodeFits n) (hl : n.Needs.length ≤ 1048577) (f : Flags) : modes_Of.v o n f = some (ofB o n f) := by
  rw [modes_Of.v_eq, chk19_v o hf, Option.bind_some, alone_v n hn hl, neq_dec]
  unfold ofB askB
  cases hc : decide (chkB o = 0) with
  | false => simp only [Bool.not_false, cond_true, hc]
  | true =>
    cases hb : nodeB n with
    | false => rfl
    | true =>
      simp only [Bool.not_true, cond_false, cond_true, Option.bind_some, set_v, cnt_zero, show icmp .neq (0 : Int) (0 : Int) = false from rfl]
      unfold modeB
      cases o.Dry <;> cases o.Touch <;> cases o.Query <;> cases f.Always <;> simp only [cond_true, cond_false, Bool.not_true, Bool.not_false, Bool.or_true, Bool.or_false, Bool.true_or, Bool.false_or, Bool.true_and, Bool.false_and, Option.bind_some] <;> cases f.Ignore <;> cases o.Ignore <;> cases n.Ignore <;> first
        | rfl
        | (cases f.Silent <;> cases o.Silent <;> cases n.Silent <;> rfl)
theorem asked_v (o : Options) (hf : optFits o) (n : Node) (hn : nodeFits n) : smithyref19_asked.v o n = some (askB o n) := by
  rw [smithyref19_asked.v_eq, rchk19_v o hf, Option.bind_some, node_v n hn, eql_neq, neq_dec]
  unfold askB
  cases decide (chkB o = 0) <;> rfl
theorem mode_v (o : Options) (n : Node) (f : Flags) : smithyref19_Mode.f o n f = some (modeB o n f) := by
  unfold smithyref19_Mode.f modeB
  cases o.Dry <;> cases o.Touch <;> cases o.Query <;> cases f.Always <;> simp only [cond_true, cond_false, Bool.not_true, Bool.not_false, Bool.or_true, Bool.or_false, Bool.true_or, Bool.false_or, Bool.true_and, Bool.false_and, Option.bind_some] <;> cases f.Ignore <;> cases o.Ignore <;> cases n.Ignore <;> first
    | rfl
    | (cases f.Silent <;> cases o.Silent <;> cases n.Silent <;> rfl)
theorem rof_v (o : Options) (hf : optFits o) (n : Node) (hn : nodeFits n) (f : Flags) : smithyref19_Of.v o n f = some (ofB o n f) := by
  rw [smithyref19_Of.v_eq, asked_v o hf n hn, Option.bind_some, mode_v, neq_dec]
  unfold ofB
  cases decide (askB o n = 0) <;> rfl
def touchB (o : Options) (n : Node) : Bool × Int := bif !decide (askB o n = 0) then (false, askB o n) else (o.Touch && !n.Phony, 0)
theorem touch_v (o : Options) (hf : optFits o) (n : Node) (hn : nodeFits n) (hl : n.Needs.length ≤ 1048577) : modes_Touches.v o n = some (touchB o n) := by
  rw [modes_Touches.v_eq, chk19_v o hf, Option.bind_some, alone_v n hn hl, neq_dec]
  unfold touchB askB
  cases hc : decide (chkB o = 0) with
  | false => simp only [Bool.not_false, cond_true, hc]
  | true =>
    cases hb : nodeB n with
    | false => rfl
    | true => cases o.Touch <;> rfl
theorem rtouch_v (o : Options) (hf : optFits o) (n : Node) (hn : nodeFits n) : smithyref19_Touches.v o n = some (touchB o n) := by
  rw [smithyref19_Touches.v_eq, asked_v o hf n hn, Option.bind_some, neq_dec]
  unfold touchB
  cases decide (askB o n = 0) with
  | false => rfl
  | true => cases o.Touch <;> rfl
theorem small19_v : smithylaw19_small.v = some true := smithylaw19_small.tends.at 40 (by kernel_rfl)
theorem eqMode_self (m : Mode) : eqMode m m = true := by
  unfold eqMode
  cases m.Echo <;> cases m.Run <;> cases m.Forgive <;> rfl
theorem opt_fits {o : Options} (h1 : o.Files.length * 16 ≤ LIM ∧ ∀ y ∈ o.Files, y.size ≤ LIM) (h2 : o.Goals.length * 16 ≤ LIM ∧ ∀ y ∈ o.Goals, y.size ≤ LIM) (h3 : o.Macros.length * 40 ≤ LIM) (h4 : ∀ y ∈ o.Macros, y.Name.size ≤ LIM) : optFits o :=
  ⟨by have := h1.1; simp only [LIM] at *; omega, h1.2, by have := h2.1; simp only [LIM] at *; omega, h2.2, by simp only [LIM] at *; omega, h4⟩
end Go.Proofs.Ytmmjbobicnmilaa.F
