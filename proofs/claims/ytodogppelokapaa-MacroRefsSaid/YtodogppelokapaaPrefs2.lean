/- Both walks through a text come to the same. -/
import Derived.Test.YtodogppelokapaaPrefs
set_option linter.unusedVariables false
set_option linter.unusedSimpArgs false
set_option linter.unnecessarySimpa false
set_option linter.deprecated false
namespace Go.Proofs.Ytodogppelokapaa.F
open Go Go.RowKit Go.Proofs.Ytodogppelokapaa.Sl
theorem wrap_add {j k : Nat} (h : j + k < 9223372036854775807) : IntKind.i64.wrap ((j : Int) + (k : Int)) = ((j + k : Nat) : Int) := by
  simp [IntKind.wrap, IntKind.signed, IntKind.bits]
  split <;> omega
theorem sort_v (l : List ByteArray) (h : l.length ≤ 1000000) : slices_Sort_string_string.f l = some (sortB l) := by
  unfold slices_Sort_string_string.f
  rw [show Nat.blt l.length 4611686018427387904 = true from Nat.ble_eq_true_of_le (by omega)]; rfl
def nameOf (x : ByteArray) : ByteArray := if Lib.indexByte (dl x) 58 = -1 then x else x.extract 0 (Lib.indexByte (dl x) 58).toNat
theorem cut_v (x : ByteArray) (hx : x.size ≤ 65536) : ∃ r b, strings_Cut.f x (⟨#[58]⟩ : ByteArray) = some (nameOf x, r, b) := by
  unfold strings_Cut.f internal_stringslite_Cut.f
  rw [show internal_stringslite_Index.f x (⟨#[58]⟩ : ByteArray) = some (Lib.indexByte (dl x) 58) from rfl, Option.bind_some]
  unfold nameOf
  rcases ib_range (dl x) 58 with h | h
  · rw [h]
    exact ⟨_, _, rfl⟩
  · obtain ⟨u, hu⟩ := Int.eq_ofNat_of_zero_le h.1
    have hlt : u < x.size := by have := h.2; rw [hu, dl_len] at this; omega
    rw [hu, if_neg (by omega), show icmp .geq (u : Int) (0 : Int) = true by unfold icmp; exact decide_eq_true (by omega), cond_true, show ssub x (0 : Int) (u : Int) = _ from ssub_nat (i := 0) (Nat.zero_le u) (by omega), Option.bind_some,
      show ((⟨#[58]⟩ : ByteArray).size : Int) = 1 from rfl, wrap_nat (by omega), ssub_nat (by omega) (Nat.le_refl _), Option.bind_some, Option.bind_some]
    exact ⟨_, _, rfl⟩
theorem fin_same {acc accR : List ByteArray} (hs : accR.Pairwise Less) (h : ∀ x, x ∈ accR ↔ x ∈ acc) : compactB (sortB acc) = accR :=
  sorted_uniq (cs_sorted acc).1 hs (fun x => ((cs_sorted acc).2 x).trans (h x).symm)
/-- The name in brackets, as the document cuts it. -/
theorem name_same (a : ByteArray) (i v : Nat) (h : i + 2 + v ≤ a.size) : ssub a ((i + 2 : Nat) : Int) (if Lib.indexByte (((dl a).drop (i + 2)).take v) 58 = -1 then ((i + 2 + v : Nat) : Int) else ((i + 2 : Nat) : Int) + Lib.indexByte (((dl a).drop (i + 2)).take v) 58) = some (nameOf (a.extract (i + 2) (i + 2 + v))) := by
  have hd : dl (a.extract (i + 2) (i + 2 + v)) = ((dl a).drop (i + 2)).take v := by rw [dl_extract]; congr 1; omega
  unfold nameOf
  rw [hd]
  rcases ib_range (((dl a).drop (i + 2)).take v) 58 with h1 | h1
  · rw [if_pos h1, if_pos h1, ssub_nat (by omega) h]
  · obtain ⟨u, hu⟩ := Int.eq_ofNat_of_zero_le h1.1
    have hlt : u < v := by have := h1.2; rw [hu, List.length_take] at this; omega
    rw [hu, if_neg (by omega), if_neg (by omega), show ((i + 2 : Nat) : Int) + (u : Int) = ((i + 2 + u : Nat) : Int) by omega, ssub_nat (by omega) (by omega)]
    congr 1
    refine ext_data ?_
    rw [dl_extract, dl_extract, hd]
    simp only [List.drop_zero, Int.toNat_natCast, Nat.sub_zero, List.take_take]
    congr 1; omega
theorem closing_v (c : UInt8) (h : c = 40 ∨ c = 123) : ∃ e : UInt8, macro_closing.f (c.toNat : Int) = some (e.toNat : Int) ∧ (bif icmp .eql (c.toNat : Int) (123 : Int) then some (125 : Int) else some (41 : Int)) = some (e.toNat : Int) ∧ (∀ x : ByteArray, strings_IndexByte.f x (e.toNat : Int) = some (Lib.indexByte (dl x) e)) := by
  rcases h with rfl | rfl
  · exact ⟨41, rfl, rfl, fun x => rfl⟩
  · exact ⟨125, rfl, rfl, fun x => rfl⟩
theorem one_byte (a : ByteArray) (i : Nat) (h : i + 1 < a.size) : strOfNums [(((dl a)[i + 1]'(by rw [dl_len]; exact h)).toNat : Int)] = a.extract (i + 1) (i + 2) := by
  refine ext_data ?_
  rw [dl_extract, show dl (strOfNums [(((dl a)[i + 1]'(by rw [dl_len]; exact h)).toNat : Int)]) = _ from strOfNums_data _, show i + 2 - (i + 1) = 1 by omega, List.drop_eq_getElem_cons (by rw [dl_len]; exact h)]
  simp
def GoodA (R : List ByteArray) (A : Except (List ByteArray × Int) (List ByteArray)) : Prop := match A with
  | .error r => r = (R, (0 : Int))
  | .ok acc => compactB (sortB acc) = R ∧ acc.length ≤ 1000000
theorem refs_same (a : ByteArray) (hs : a.size ≤ 65536) : ∀ m i : Nat, a.size ≤ i + m → i ≤ a.size → ∀ acc accR : List ByteArray, acc.length ≤ i → accR.length ≤ i → accR.Pairwise Less → (∀ x, x ∈ accR ↔ x ∈ acc) →
    ∃ R, smithyref05_Refs.l0.v a (accR, (i : Int)) = some R ∧ R.length ≤ 1000000 ∧ ∃ A, macro_Refs.l0.v a (acc, (i : Int)) = some A ∧ GoodA R A := by
  intro m
  induction m with
  | zero =>
    intro i h1 h2 acc accR ha hr hsr hmem
    refine ⟨accR, ?_, by omega, .ok acc, ?_, fin_same hsr hmem, by omega⟩
    · rw [smithyref05_Refs.l0.v_eq]
      simp only
      rw [wrap_nat (by omega), lss_nat, decide_eq_false (by omega)]; rfl
    · rw [macro_Refs.l0.v_eq]
      simp only
      rw [wrap_nat (by omega), lss_nat, decide_eq_false (by omega)]; rfl
  | succ m ih =>
    intro i h1 h2 acc accR ha hr hsr hmem
    by_cases hlt : i + 1 < a.size
    · have hi0 : i < a.size := by omega
      have hw1 : IntKind.i64.wrap ((i : Int) + 1) = ((i + 1 : Nat) : Int) := wrap_nat (by omega)
      have hw2 : IntKind.i64.wrap (((i + 1 : Nat) : Int) + 1) = ((i + 2 : Nat) : Int) := wrap_nat (by omega)
      have hl : icmp .lss ((i + 1 : Nat) : Int) (a.size : Int) = true := by rw [lss_nat, decide_eq_true hlt]
      have hb0 := bidx_nat hi0
      have hb1 := bidx_nat hlt
      generalize hc0 : (a.data.toList[i]'(by simpa using hi0)) = c0 at hb0
      generalize hc1 : (a.data.toList[i + 1]'(by simpa using hlt)) = c1 at hb1
      have n36 : icmp .neq (c0.toNat : Int) (36 : Int) = !decide (c0 = 36) := neq_byte c0 36
      have e36 : icmp .eql (c1.toNat : Int) (36 : Int) = decide (c1 = 36) := eq_byte c1 36
      have e40 : icmp .eql (c1.toNat : Int) (40 : Int) = decide (c1 = 40) := eq_byte c1 40
      have e123 : icmp .eql (c1.toNat : Int) (123 : Int) = decide (c1 = 123) := eq_byte c1 123
      have n40 : icmp .neq (c1.toNat : Int) (40 : Int) = !decide (c1 = 40) := neq_byte c1 40
      have n123 : icmp .neq (c1.toNat : Int) (123 : Int) = !decide (c1 = 123) := neq_byte c1 123
      rw [smithyref05_Refs.l0.v_eq, macro_Refs.l0.v_eq]
      simp only [hw1, hw2, hl, hb0, hb1, cond_true, Option.bind_some, n36]
      by_cases h0 : c0 = 36
      · simp only [decide_eq_true h0, Bool.not_true, cond_false, e36]
        by_cases h3 : c1 = 36
        · simp only [decide_eq_true h3, cond_true, Option.bind_some]
          rw [show IntKind.i64.wrap (((i + 1 : Nat) : Int) + 1) = ((i + 2 : Nat) : Int) from hw2]
          exact ih (i + 2) (by omega) (by omega) acc accR (by omega) (by omega) hsr hmem
        · simp only [decide_eq_false h3, cond_false, e40, n40, n123]
          by_cases h4 : c1 = 40 ∨ c1 = 123
          · obtain ⟨e, q1, q2, q3⟩ := closing_v c1 h4
            have hbr : (bif decide (c1 = 40) then some (decide (c1 = 40)) else some (icmp .eql (c1.toNat : Int) (123 : Int))) = some true := by
              rw [e123]
              rcases h4 with h | h <;> subst h <;> rfl
            have hnb : (bif !decide (c1 = 40) then some (!decide (c1 = 123)) else some false) = some false := by
              rcases h4 with h | h <;> subst h <;> rfl
            have hsz : ssub a ((i + 2 : Nat) : Int) (a.size : Int) = some (a.extract (i + 2) a.size) := ssub_nat (by omega) (Nat.le_refl _)
            have hde : dl (a.extract (i + 2) a.size) = (dl a).drop (i + 2) := by rw [dl_extract]; exact List.take_of_length_le (by rw [List.length_drop, dl_len]; exact Nat.le_refl _)
            have hst := stop_loop a e hs (i + 2) (by rw [dl_len]; omega)
            simp only [hbr, hnb, q1, q2, hsz, q3, hde, hst, cond_true, cond_false, Option.bind_some]
            rcases ib_range ((dl a).drop (i + 2)) e with hD | hD
            · simp only [hD, if_true, show icmp .lss (-1 : Int) (0 : Int) = true from rfl, cond_true, sort_v acc (by omega), Option.bind_some, show ∀ l, slices_Compact_string_string.f l = some (compactB l) from fun _ => rfl]
              have he : icmp .eql (a.size : Int) (a.size : Int) = true := by unfold icmp; simp
              simp only [he, cond_true]
              exact ⟨accR, rfl, by omega, _, rfl, by show (compactB (sortB acc), (0 : Int)) = (accR, (0 : Int)); rw [fin_same hsr hmem]⟩
            · obtain ⟨v, hv⟩ := Int.eq_ofNat_of_zero_le hD.1
              have hvl : i + 2 + v < a.size := by have := hD.2; rw [hv, List.length_drop, dl_len] at this; omega
              have k1 : icmp .lss (v : Int) (0 : Int) = false := by unfold icmp; exact decide_eq_false (by omega)
              have k2 : IntKind.i64.wrap (((i + 2 : Nat) : Int) + (v : Int)) = ((i + 2 + v : Nat) : Int) := wrap_add (by omega)
              have k3 : IntKind.i64.wrap ((v : Int) + 1) = ((v + 1 : Nat) : Int) := wrap_nat (by omega)
              have k4 : IntKind.i64.wrap (((i + 1 : Nat) : Int) + ((v + 1 : Nat) : Int)) = ((i + 1 + (v + 1) : Nat) : Int) := wrap_add (by omega)
              have k5 : IntKind.i64.wrap (((i + 1 + (v + 1) : Nat) : Int) + 1) = ((i + 1 + (v + 1) + 1 : Nat) : Int) := wrap_nat (by omega)
              have k6 : ((i + 2 : Nat) : Int) + (v : Int) = ((i + 2 + v : Nat) : Int) := by omega
              have k2' : IntKind.i64.wrap ((i + 2 + v : Nat) : Int) = ((i + 2 + v : Nat) : Int) := by rw [← k6]; exact k2.trans k6.symm
              have k7 : icmp .eql ((i + 2 + v : Nat) : Int) (a.size : Int) = false := by rw [eql_nat, decide_eq_false (by omega)]
              have k8 : IntKind.i64.wrap (((i + 2 + v : Nat) : Int) - 1) = ((i + 1 + v : Nat) : Int) := by
                rw [show ((i + 2 + v : Nat) : Int) = ((i + 1 + v + 1 : Nat) : Int) by omega]; exact pred_nat (by omega)
              have k9 : IntKind.i64.wrap (((i + 2 + v : Nat) : Int) + 1) = ((i + 2 + v + 1 : Nat) : Int) := wrap_nat (by omega)
              have hss : ssub a ((i + 2 : Nat) : Int) ((i + 2 + v : Nat) : Int) = some (a.extract (i + 2) (i + 2 + v)) := ssub_nat (by omega) (by omega)
              have hxs : (a.extract (i + 2) (i + 2 + v)).size ≤ 65536 := by
                rw [← dl_len, dl_extract, List.length_take, List.length_drop, dl_len]; omega
              obtain ⟨r1, b1, hcut⟩ := cut_v (a.extract (i + 2) (i + 2 + v)) hxs
              have hcl := colon_loop a hs accR i v (by omega) ((i + 2 + v : Nat) : Int)
              have hnm := name_same a i v (by omega)
              obtain ⟨r, p1, p2, p3, p4⟩ := put_v accR (nameOf (a.extract (i + 2) (i + 2 + v))) (by omega) hsr
              have happ : app 16 acc [nameOf (a.extract (i + 2) (i + 2 + v))] = some (acc ++ [nameOf (a.extract (i + 2) (i + 2 + v))]) := app_all (by simp; omega)
              have hvn : ¬ ((v : Int) = -1) := by omega
              simp only [hv, if_neg hvn, k1, k2, k2', k3, k4, k6, k7, k8, k9, hss, hcut, hcl, hnm, p1, happ, cond_false, Option.bind_some, k5]
              rw [show i + 2 + v + 1 = i + 1 + (v + 1) + 1 by omega]
              exact ih (i + 1 + (v + 1) + 1) (by omega) (by omega) (acc ++ [nameOf (a.extract (i + 2) (i + 2 + v))]) r (by simp; omega) (by omega) p2 (fun x => by
                rw [p3, List.mem_append, List.mem_singleton, hmem]
                exact or_comm)
          · have h40 : ¬ c1 = 40 := fun h => h4 (.inl h)
            have h123 : ¬ c1 = 123 := fun h => h4 (.inr h)
            have hob : strOfNums [(c1.toNat : Int)] = a.extract (i + 1) (i + 2) := by rw [← hc1]; exact one_byte a i hlt
            have hss : ssub a ((i + 1 : Nat) : Int) ((i + 2 : Nat) : Int) = some (a.extract (i + 1) (i + 2)) := ssub_nat (by omega) (by omega)
            obtain ⟨r, p1, p2, p3, p4⟩ := put_v accR (a.extract (i + 1) (i + 2)) (by omega) hsr
            have happ : app 16 acc [a.extract (i + 1) (i + 2)] = some (acc ++ [a.extract (i + 1) (i + 2)]) := app_all (by simp; omega)
            simp only [decide_eq_false h40, decide_eq_false h123, e123, Bool.not_false, cond_true, cond_false, Option.bind_some, hob, hss, p1, happ, hw2]
            exact ih (i + 2) (by omega) (by omega) (acc ++ [a.extract (i + 1) (i + 2)]) r (by simp; omega) (by omega) p2 (fun x => by
              rw [p3, List.mem_append, List.mem_singleton, hmem]
              exact or_comm)
      · simp only [decide_eq_false h0, Bool.not_false, cond_true, Option.bind_some, hw1]
        exact ih (i + 1) (by omega) (by omega) acc accR (by omega) (by omega) hsr hmem
    · refine ⟨accR, ?_, by omega, .ok acc, ?_, fin_same hsr hmem, by omega⟩
      · rw [smithyref05_Refs.l0.v_eq]
        simp only
        rw [wrap_nat (by omega), lss_nat, decide_eq_false (by omega)]; rfl
      · rw [macro_Refs.l0.v_eq]
        simp only
        rw [wrap_nat (by omega), lss_nat, decide_eq_false (by omega)]; rfl
theorem texts_loop (l : List ByteArray) (hl : l.length ≤ LIM) : ∀ j : Nat, j ≤ l.length → smithyplain_Texts.l0.v l l j = some (.ok ()) := fun j hj =>
  up j hj (by rw [smithyplain_Texts.l0.v_eq, lss_nat, decide_eq_false (by simp)]; rfl) (fun j hj ih => by
    rw [smithyplain_Texts.l0.v_eq, lss_nat, decide_eq_true hj, cond_true, idx_nat hj, Option.bind_some, Option.bind_some, wrap_nat (by simp [LIM] at hl; omega), ih, scmp_neq, decide_eq_true rfl]; rfl)
theorem texts_v (l : List ByteArray) (hl : l.length ≤ LIM) : smithyplain_Texts.v l l = some true := by
  rw [smithyplain_Texts.v_eq, neq_nat, decide_eq_true rfl, show smithyplain_Texts.l0.v l l 0 = _ from texts_loop l hl 0 (Nat.zero_le _)]; rfl
theorem small05_v : smithylaw05_small.v = some true := smithylaw05_small.tends.at 40 (by kernel_rfl)
/-- Both Refs. -/
theorem Refs_v (a : ByteArray) : ∃ R e, macro_Refs.v a = some (R, e) ∧ smithyref05_Refs.v a = some (R, e) ∧ R.length ≤ 1000000 := by
  rw [macro_Refs.v_eq, smithyref05_Refs.v_eq, show icmp .gtr (a.size : Int) (65536 : Int) = _ from gtr_nat _ 65536]
  by_cases h : 65536 < a.size
  · rw [decide_eq_true h]; exact ⟨[], 2, rfl, rfl, by simp⟩
  · rw [decide_eq_false h, cond_false, cond_false]
    obtain ⟨R, e1, hR, A, e2, hA⟩ := refs_same a (by omega) a.size 0 (by omega) (Nat.zero_le _) [] [] (Nat.le_refl _) (Nat.le_refl _) List.Pairwise.nil (fun x => Iff.rfl)
    rw [show macro_Refs.l0.v a (([] : List ByteArray), (0 : Int)) = _ from e2, show smithyref05_Refs.l0.v a (([] : List ByteArray), (0 : Int)) = _ from e1, Option.bind_some, Option.bind_some]
    refine ⟨R, 0, ?_, rfl, hR⟩
    cases A with
    | error r => rw [show r = (R, (0 : Int)) from hA]
    | ok acc =>
      obtain ⟨h1, h2⟩ := hA
      simp only
      rw [sort_v acc h2, Option.bind_some, show slices_Compact_string_string.f (sortB acc) = some (compactB (sortB acc)) from rfl, Option.bind_some, h1]
end Go.Proofs.Ytodogppelokapaa.F
