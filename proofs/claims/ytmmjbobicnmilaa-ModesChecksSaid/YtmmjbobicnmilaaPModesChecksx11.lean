-- written by mp.py (wip/tools), a program of this session, over the kit's print
import Derived.Test.YtmmjbobicnmilaaPModesChecksx0
import Derived.Test.YtmmjbobicnmilaaPModesChecksx6
import Derived.Test.YtmmjbobicnmilaaPModesChecksx9
import Derived.Test.YtmmjbobicnmilaaPModesChecksx10
namespace Go.Proofs.Ytmmjbobicnmilaa.P
open Go.RowKit Go.Proofs.YtmmjbobicnmilaaW.PrintWords Go.Proofs.YtmmjbobicnmilaaW.PrintLast Go.Proofs.YtmmjbobicnmilaaW.PrintMore
attribute [local go_sem] max2_int min2_int max_two min_two max_three min_three max_four min_four   -- for this text's walks alone
set_option linter.unusedVariables false
set_option linter.unusedSimpArgs false

/-! ### modes_Of: function 6 -/
open Go.Proofs.Ytmmjbobicnmilaa.Ext Go.Proofs.Ytmmjbobicnmilaa.Maps0
def cnt3 (x y z : Bool) : Int := (if x then 1 else 0) + (if y then 1 else 0) + (if z then 1 else 0)
theorem set3 (x y z : Bool) : modes_set.f 5 [x, y, z] = some (cnt3 x y z) := by cases x <;> cases y <;> cases z <;> decide +kernel
theorem cnt3_zero (x y z : Bool) : (cnt3 x y z == 0) = (!x && !y && !z) := by cases x <;> cases y <;> cases z <;> decide +kernel
def runR (d t q fA : Bool) : Bool := fA || (!d && !t && !q)
def echoR (d t q oS nS fS fA : Bool) : Bool := d || (runR d t q fA && (!fS && !oS && !nS))
def forgR (oI nI fI : Bool) : Bool := fI || oI || nI
theorem bools3 (b : Nat) (x y z : Bool) (w : World) (h0 : w.cell? ⟨b, 0, none⟩ = some (.bool x)) (h1 : w.cell? ⟨b, 1, none⟩ = some (.bool y)) (h2 : w.cell? ⟨b, 2, none⟩ = some (.bool z)) : Kd.C Kd.bool w (some ⟨b, 0, none⟩) 3 [x, y, z] := by
  refine ⟨rfl, by omega, fun _ => ⟨_, rfl, fun j p hj => ⟨[.bool p], rfl, rfl, fun i u hu => ?_⟩⟩⟩
  cases i with
  | succ i => simp at hu
  | zero =>
    have hu2 : Value.bool p = u := by simpa using hu
    subst hu2
    have hsz : Kd.bool.sz = 1 := rfl
    rw [hsz, Addr.add_lit]
    match j with
    | 0 => have : x = p := by simpa using hj
           subst this; simpa using h0
    | 1 => have : y = p := by simpa using hj
           subst this; simpa using h1
    | 2 => have : z = p := by simpa using hj
           subst this; simpa using h2
    | j + 3 => simp at hj
theorem set3_call (b : Nat) (x y z : Bool) (w : World) (h0 : w.cell? ⟨b, 0, none⟩ = some (.bool x)) (h1 : w.cell? ⟨b, 1, none⟩ = some (.bool y)) (h2 : w.cell? ⟨b, 2, none⟩ = some (.bool z)) :
    Calls Try.prog 19 #[.slice (some ⟨b, 0, none⟩) 3 3] w fun e w' => e = .returned (.int .i64 (cnt3 x y z)) ∧ Drawn0 w w' := modes_set.calls 5 (some ⟨b, 0, none⟩) 3 [x, y, z] _ w (bools3 b x y z w h0 h1 h2) (Nat.le_refl _) (set3 x y z)

theorem set3_new (x y z : Bool) (W : World) :
    Calls Try.prog 19 #[.slice (some ⟨W.heap.size, 0, none⟩) 3 3] (W.alloc (.cells #[.bool x, .bool y, .bool z] 4)).drew fun e w' => e = .returned (.int .i64 (cnt3 x y z)) ∧ ∃ q, w' = ((W.alloc (.cells #[.bool x, .bool y, .bool z] 4)).drew).drewN q :=
  (set3_call W.heap.size x y z _ (by simp) (by simp) (by simp)).mono fun e w' ⟨he, hd⟩ => ⟨he, hd.out⟩
theorem set3_new1 (x y z : Bool) (W : World) :
    Calls Try.prog 19 #[.slice (some ⟨W.heap.size, 0, none⟩) 3 3] (W.alloc (.cells #[.bool x, .bool y, .bool z] 4)) fun e w' => e = .returned (.int .i64 (cnt3 x y z)) ∧ ∃ q, w' = (W.alloc (.cells #[.bool x, .bool y, .bool z] 4)).drewN q :=
  (set3_call W.heap.size x y z _ (by simp) (by simp) (by simp)).mono fun e w' ⟨he, hd⟩ => ⟨he, hd.out⟩
theorem set3_new2 (x y z : Bool) (W : World) (o : Obj) :
    Calls Try.prog 19 #[.slice (some ⟨W.heap.size, 0, none⟩) 3 3] ((W.alloc (.cells #[.bool x, .bool y, .bool z] 4)).alloc o) fun e w' => e = .returned (.int .i64 (cnt3 x y z)) ∧ ∃ q, w' = ((W.alloc (.cells #[.bool x, .bool y, .bool z] 4)).alloc o).drewN q :=
  (set3_call W.heap.size x y z _ (Lib.cell?_alloc_some (W := (W.alloc (.cells #[.bool x, .bool y, .bool z] 4))) o (by simp)) (Lib.cell?_alloc_some (W := (W.alloc (.cells #[.bool x, .bool y, .bool z] 4))) o (by simp)) (Lib.cell?_alloc_some (W := (W.alloc (.cells #[.bool x, .bool y, .bool z] 4))) o (by simp))).mono fun e w' ⟨he, hd⟩ => ⟨he, hd.out⟩

theorem set3_new4 (x y z : Bool) (W : World) (o : Obj) :
    Calls Try.prog 19 #[.slice (some ⟨W.heap.size, 0, none⟩) 3 3] ((W.alloc (.cells #[.bool x, .bool y, .bool z] 4)).alloc o).drew fun e w' => e = .returned (.int .i64 (cnt3 x y z)) ∧ ∃ q, w' = (((W.alloc (.cells #[.bool x, .bool y, .bool z] 4)).alloc o).drew).drewN q :=
  (set3_call W.heap.size x y z ((W.alloc (.cells #[.bool x, .bool y, .bool z] 4)).alloc o).drew (show ((W.alloc (.cells #[.bool x, .bool y, .bool z] 4)).alloc o).cell? _ = _ from Lib.cell?_alloc_some (W := (W.alloc (.cells #[.bool x, .bool y, .bool z] 4))) o (by simp)) (show ((W.alloc (.cells #[.bool x, .bool y, .bool z] 4)).alloc o).cell? _ = _ from Lib.cell?_alloc_some (W := (W.alloc (.cells #[.bool x, .bool y, .bool z] 4))) o (by simp)) (show ((W.alloc (.cells #[.bool x, .bool y, .bool z] 4)).alloc o).cell? _ = _ from Lib.cell?_alloc_some (W := (W.alloc (.cells #[.bool x, .bool y, .bool z] 4))) o (by simp))).mono fun e w' ⟨he, hd⟩ => ⟨he, hd.out⟩

theorem set3_new5 (x y z : Bool) (W : World) (o : Obj) :
    Calls Try.prog 19 #[.slice (some ⟨W.heap.size + 1, 0, none⟩) 3 3] ((W.alloc o).alloc (.cells #[.bool x, .bool y, .bool z] 4)).drew fun e w' => e = .returned (.int .i64 (cnt3 x y z)) ∧ ∃ q, w' = (((W.alloc o).alloc (.cells #[.bool x, .bool y, .bool z] 4)).drew).drewN q := by
  have h := set3_new x y z (W.alloc o)
  rwa [show (W.alloc o).heap.size = W.heap.size + 1 by simp] at h
theorem set3_new6 (x y z : Bool) (W : World) (o : Obj) :
    Calls Try.prog 19 #[.slice (some ⟨W.heap.size + 1, 0, none⟩) 3 3] ((W.alloc o).alloc (.cells #[.bool x, .bool y, .bool z] 4)) fun e w' => e = .returned (.int .i64 (cnt3 x y z)) ∧ ∃ q, w' = ((W.alloc o).alloc (.cells #[.bool x, .bool y, .bool z] 4)).drewN q := by
  have h := set3_new1 x y z (W.alloc o)
  rwa [show (W.alloc o).heap.size = W.heap.size + 1 by simp] at h

theorem set3_eq (x y z : Bool) (b : Nat) (W : World) (hb : b = W.heap.size) :
    Calls Try.prog 19 #[.slice (some ⟨b, 0, none⟩) 3 3] (W.alloc (.cells #[.bool x, .bool y, .bool z] 4)) fun e w' => e = .returned (.int .i64 (cnt3 x y z)) ∧ ∃ q, w' = (W.alloc (.cells #[.bool x, .bool y, .bool z] 4)).drewN q := by
  subst hb
  exact set3_new1 x y z W

theorem ret_mode {a a' b b' c c' : Bool} (h1 : a = a') (h2 : b = b') (h3 : c = c') : Ending.returned (Value.tuple #[.agg #[.bool a, .bool b, .bool c], .int .i64 0]) = .returned (.tuple #[.agg #[.bool a', .bool b', .bool c'], .int .i64 0]) := by rw [h1, h2, h3]
theorem echo_dry (t q oS nS fS fA : Bool) : true = echoR true t q oS nS fS fA := rfl
theorem run_dry (d t q : Bool) : (cnt3 d t q == 0) = runR d t q false := by rw [cnt3_zero]; rfl
theorem echo_plain (oS nS fS fA : Bool) : (cnt3 fS oS nS == 0) = echoR false false false oS nS fS fA := by rw [cnt3_zero]; cases fA <;> rfl
theorem forg_plain (n : Bool) : n = forgR false n false := by cases n <;> rfl

set_option maxHeartbeats 20000000 in
set_option maxRecDepth 100000 in
theorem modes_Of.bad0 (k : Nat) (a0_0 : Bool) (a0_1 : Bool) (a0_2 : Bool) (a0_3 : Bool) (a0_4 : Bool) (a0_5 : Bool) (a0_6 : Int) (A0_7 : Option Addr) (c0_7 : Nat) (l0_7 : List ByteArray) (A0_8 : Option Addr) (c0_8 : Nat) (l0_8 : List (S58)) (A0_9 : Option Addr) (c0_9 : Nat) (l0_9 : List ByteArray) (a1_0 : ByteArray) (A1_1 : Option Addr) (c1_1 : Nat) (l1_1 : List ByteArray) (A1_2 : Option Addr) (c1_2 : Nat) (l1_2 : List ByteArray) (a1_3 : Bool) (a1_4 : ByteArray) (a1_5 : ByteArray) (a1_6 : Bool) (a1_7 : Bool) (a1_8 : Bool) (a1_9 : Bool) (a2_0 : Bool) (a2_1 : Bool) (a2_2 : Bool) (w : World) (hr0_7 : Kd.C Kd.string w A0_7 l0_7.length l0_7) (hc0_7 : l0_7.length ≤ c0_7) (hr0_8 : Kd.C k58 w A0_8 l0_8.length l0_8) (hc0_8 : l0_8.length ≤ c0_8) (hr0_9 : Kd.C Kd.string w A0_9 l0_9.length l0_9) (hc0_9 : l0_9.length ≤ c0_9) (hr1_1 : Kd.C Kd.string w A1_1 l1_1.length l1_1) (hc1_1 : l1_1.length ≤ c1_1) (hr1_2 : Kd.C Kd.string w A1_2 l1_2.length l1_2) (hc1_2 : l1_2.length ≤ c1_2)  (t : Int) (ht : modes_Check.f k a0_0 a0_1 a0_2 a0_3 a0_4 a0_5 a0_6 l0_7 l0_8 l0_9 = some t) (h0 : t ≠ 0) :
    Calls Try.prog 6 #[.agg #[.bool a0_0, .bool a0_1, .bool a0_2, .bool a0_3, .bool a0_4, .bool a0_5, .int .i64 a0_6, .slice A0_7 l0_7.length c0_7, .slice A0_8 l0_8.length c0_8, .slice A0_9 l0_9.length c0_9], .agg #[.string a1_0, .slice A1_1 l1_1.length c1_1, .slice A1_2 l1_2.length c1_2, .bool a1_3, .string a1_4, .string a1_5, .bool a1_6, .bool a1_7, .bool a1_8, .bool a1_9], .agg #[.bool a2_0, .bool a2_1, .bool a2_2]] w fun e w' => e = .returned (.tuple #[.agg #[.bool false, .bool false, .bool false], .int .i64 t]) ∧ Below w.heap.size w w' := by
  have hb4 : Below w.heap.size w ((((w.alloc (.cells #[.bool a0_0, .bool a0_1, .bool a0_2, .bool a0_3, .bool a0_4, .bool a0_5, .int .i64 a0_6, .slice A0_7 l0_7.length c0_7, .slice A0_8 l0_8.length c0_8, .slice A0_9 l0_9.length c0_9] 25)).alloc (.cells #[.string a1_0, .slice A1_1 l1_1.length c1_1, .slice A1_2 l1_2.length c1_2, .bool a1_3, .string a1_4, .string a1_5, .bool a1_6, .bool a1_7, .bool a1_8, .bool a1_9] 27)).alloc (.cells #[.bool a2_0, .bool a2_1, .bool a2_2] 29)).alloc (.cells #[.bool false, .bool false, .bool false] 31)) := below_alloc (below_alloc (below_alloc (below_alloc (Below.refl _ _) _) _) _) _
  have g7 := Kd.C_below hr0_7 hb4
  have g8 := Kd.C_below hr0_8 hb4
  have g9 := Kd.C_below hr0_9 hb4
  have RB0 : ((((w.alloc (.cells #[.bool a0_0, .bool a0_1, .bool a0_2, .bool a0_3, .bool a0_4, .bool a0_5, .int .i64 a0_6, .slice A0_7 l0_7.length c0_7, .slice A0_8 l0_8.length c0_8, .slice A0_9 l0_9.length c0_9] 25)).alloc (.cells #[.string a1_0, .slice A1_1 l1_1.length c1_1, .slice A1_2 l1_2.length c1_2, .bool a1_3, .string a1_4, .string a1_5, .bool a1_6, .bool a1_7, .bool a1_8, .bool a1_9] 27)).alloc (.cells #[.bool a2_0, .bool a2_1, .bool a2_2] 29)).alloc (.cells #[.bool false, .bool false, .bool false] 31)).heap[w.heap.size + 1 + 1 + 1]? = some (.cells #[.bool false, .bool false, .bool false] 31 (0, 0)) := by
    have h9 := blk_new (((w.alloc (.cells #[.bool a0_0, .bool a0_1, .bool a0_2, .bool a0_3, .bool a0_4, .bool a0_5, .int .i64 a0_6, .slice A0_7 l0_7.length c0_7, .slice A0_8 l0_8.length c0_8, .slice A0_9 l0_9.length c0_9] 25)).alloc (.cells #[.string a1_0, .slice A1_1 l1_1.length c1_1, .slice A1_2 l1_2.length c1_2, .bool a1_3, .string a1_4, .string a1_5, .bool a1_6, .bool a1_7, .bool a1_8, .bool a1_9] 27)).alloc (.cells #[.bool a2_0, .bool a2_1, .bool a2_2] 29)) (.cells #[.bool false, .bool false, .bool false] 31 (0, 0))
    simpa using h9
  have RB1 := Aside0.mk RB0
  clear RB0
  have HR11 := Aside0.mk hr1_1
  have HR12 := Aside0.mk hr1_2
  have HT := Aside0.mk ht
  clear ht hb4 hr0_7 hr0_8 hr0_9 hr1_1 hr1_2
  have e1 : ((t : Int) == 0) = false := beq_eq_false_iff_ne.mpr h0
  have e2 : ((t : Int) != 0) = true := by simpa using h0
  clear h0
  go_enter Try.func6, Try.ntmps6
  go_wp2_with (go_at_call 17; refine (modes_Check.calls k a0_0 a0_1 a0_2 a0_3 a0_4 a0_5 a0_6 A0_7 c0_7 l0_7 A0_8 c0_8 l0_8 A0_9 c0_9 l0_9 _ _ g7 hc0_7 g8 hc0_8 g9 hc0_9 HT.out).mono ?_; rintro e w2 ⟨rfl, hb2⟩; have RB2 := Aside0.mk (blk_below RB1.out hb2); have hbw2 : Below w.heap.size w w2 := below_step (below_alloc (below_alloc (below_alloc (below_alloc (Below.refl w.heap.size w) _) _) _) _) hb2; have o0 : w2.cell? ⟨w.heap.size, 0, none⟩ = some (.bool a0_0) := (hb2.cell (p := ⟨w.heap.size, 0, none⟩) (by simp; try omega)).trans (by go_simp); have o1 : w2.cell? ⟨w.heap.size, 1, none⟩ = some (.bool a0_1) := (hb2.cell (p := ⟨w.heap.size, 1, none⟩) (by simp; try omega)).trans (by go_simp); have o2 : w2.cell? ⟨w.heap.size, 2, none⟩ = some (.bool a0_2) := (hb2.cell (p := ⟨w.heap.size, 2, none⟩) (by simp; try omega)).trans (by go_simp); have o3 : w2.cell? ⟨w.heap.size, 3, none⟩ = some (.bool a0_3) := (hb2.cell (p := ⟨w.heap.size, 3, none⟩) (by simp; try omega)).trans (by go_simp); have o4 : w2.cell? ⟨w.heap.size, 4, none⟩ = some (.bool a0_4) := (hb2.cell (p := ⟨w.heap.size, 4, none⟩) (by simp; try omega)).trans (by go_simp); have o5 : w2.cell? ⟨w.heap.size, 5, none⟩ = some (.bool a0_5) := (hb2.cell (p := ⟨w.heap.size, 5, none⟩) (by simp; try omega)).trans (by go_simp); have n0 : w2.cell? ⟨w.heap.size + 1, 0, none⟩ = some (.string a1_0) := (hb2.cell (p := ⟨w.heap.size + 1, 0, none⟩) (by simp; try omega)).trans (by go_simp); have n1 : w2.cell? ⟨w.heap.size + 1, 1, none⟩ = some (.slice A1_1 l1_1.length c1_1) := (hb2.cell (p := ⟨w.heap.size + 1, 1, none⟩) (by simp; try omega)).trans (by go_simp); have n2 : w2.cell? ⟨w.heap.size + 1, 2, none⟩ = some (.slice A1_2 l1_2.length c1_2) := (hb2.cell (p := ⟨w.heap.size + 1, 2, none⟩) (by simp; try omega)).trans (by go_simp); have n3 : w2.cell? ⟨w.heap.size + 1, 3, none⟩ = some (.bool a1_3) := (hb2.cell (p := ⟨w.heap.size + 1, 3, none⟩) (by simp; try omega)).trans (by go_simp); have n4 : w2.cell? ⟨w.heap.size + 1, 4, none⟩ = some (.string a1_4) := (hb2.cell (p := ⟨w.heap.size + 1, 4, none⟩) (by simp; try omega)).trans (by go_simp); have n5 : w2.cell? ⟨w.heap.size + 1, 5, none⟩ = some (.string a1_5) := (hb2.cell (p := ⟨w.heap.size + 1, 5, none⟩) (by simp; try omega)).trans (by go_simp); have n6 : w2.cell? ⟨w.heap.size + 1, 6, none⟩ = some (.bool a1_6) := (hb2.cell (p := ⟨w.heap.size + 1, 6, none⟩) (by simp; try omega)).trans (by go_simp); have n7 : w2.cell? ⟨w.heap.size + 1, 7, none⟩ = some (.bool a1_7) := (hb2.cell (p := ⟨w.heap.size + 1, 7, none⟩) (by simp; try omega)).trans (by go_simp); have n8 : w2.cell? ⟨w.heap.size + 1, 8, none⟩ = some (.bool a1_8) := (hb2.cell (p := ⟨w.heap.size + 1, 8, none⟩) (by simp; try omega)).trans (by go_simp); have n9 : w2.cell? ⟨w.heap.size + 1, 9, none⟩ = some (.bool a1_9) := (hb2.cell (p := ⟨w.heap.size + 1, 9, none⟩) (by simp; try omega)).trans (by go_simp); have f0 : w2.cell? ⟨w.heap.size + 1 + 1, 0, none⟩ = some (.bool a2_0) := (hb2.cell (p := ⟨w.heap.size + 1 + 1, 0, none⟩) (by simp; try omega)).trans (by go_simp); have f1 : w2.cell? ⟨w.heap.size + 1 + 1, 1, none⟩ = some (.bool a2_1) := (hb2.cell (p := ⟨w.heap.size + 1 + 1, 1, none⟩) (by simp; try omega)).trans (by go_simp); have f2 : w2.cell? ⟨w.heap.size + 1 + 1, 2, none⟩ = some (.bool a2_2) := (hb2.cell (p := ⟨w.heap.size + 1 + 1, 2, none⟩) (by simp; try omega)).trans (by go_simp); have r0 : w2.cell? ⟨w.heap.size + 1 + 1 + 1, 0, none⟩ = some (.bool false) := (hb2.cell (p := ⟨w.heap.size + 1 + 1 + 1, 0, none⟩) (by simp; try omega)).trans (by go_simp); have r1 : w2.cell? ⟨w.heap.size + 1 + 1 + 1, 1, none⟩ = some (.bool false) := (hb2.cell (p := ⟨w.heap.size + 1 + 1 + 1, 1, none⟩) (by simp; try omega)).trans (by go_simp); have r2 : w2.cell? ⟨w.heap.size + 1 + 1 + 1, 2, none⟩ = some (.bool false) := (hb2.cell (p := ⟨w.heap.size + 1 + 1 + 1, 2, none⟩) (by simp; try omega)).trans (by go_simp); have z0 : w2.frozen? ⟨w.heap.size + 1 + 1 + 1, 0, none⟩ = false := (hb2.frozen (p := ⟨w.heap.size + 1 + 1 + 1, 0, none⟩) (by simp; try omega)).trans (by go_simp); have z1 : w2.frozen? ⟨w.heap.size + 1 + 1 + 1, 1, none⟩ = false := (hb2.frozen (p := ⟨w.heap.size + 1 + 1 + 1, 1, none⟩) (by simp; try omega)).trans (by go_simp); have z2 : w2.frozen? ⟨w.heap.size + 1 + 1 + 1, 2, none⟩ = false := (hb2.frozen (p := ⟨w.heap.size + 1 + 1 + 1, 2, none⟩) (by simp; try omega)).trans (by go_simp))
  exact bodyPost_ret (v := .tuple #[.agg #[.bool false, .bool false, .bool false], .int .i64 t]) (by simp [results, Try.results6, go_sem, r0, r1, r2]) rfl ⟨rfl, below_set (below_set (below_set hbw2 (by omega)) (by omega)) (by omega)⟩
set_option maxHeartbeats 20000000 in
set_option maxRecDepth 100000 in
theorem modes_Of.bad1 (k : Nat) (a0_0 : Bool) (a0_1 : Bool) (a0_2 : Bool) (a0_3 : Bool) (a0_4 : Bool) (a0_5 : Bool) (a0_6 : Int) (A0_7 : Option Addr) (c0_7 : Nat) (l0_7 : List ByteArray) (A0_8 : Option Addr) (c0_8 : Nat) (l0_8 : List (S58)) (A0_9 : Option Addr) (c0_9 : Nat) (l0_9 : List ByteArray) (a1_0 : ByteArray) (A1_1 : Option Addr) (c1_1 : Nat) (l1_1 : List ByteArray) (A1_2 : Option Addr) (c1_2 : Nat) (l1_2 : List ByteArray) (a1_3 : Bool) (a1_4 : ByteArray) (a1_5 : ByteArray) (a1_6 : Bool) (a1_7 : Bool) (a1_8 : Bool) (a1_9 : Bool) (a2_0 : Bool) (a2_1 : Bool) (a2_2 : Bool) (w : World) (hr0_7 : Kd.C Kd.string w A0_7 l0_7.length l0_7) (hc0_7 : l0_7.length ≤ c0_7) (hr0_8 : Kd.C k58 w A0_8 l0_8.length l0_8) (hc0_8 : l0_8.length ≤ c0_8) (hr0_9 : Kd.C Kd.string w A0_9 l0_9.length l0_9) (hc0_9 : l0_9.length ≤ c0_9) (hr1_1 : Kd.C Kd.string w A1_1 l1_1.length l1_1) (hc1_1 : l1_1.length ≤ c1_1) (hr1_2 : Kd.C Kd.string w A1_2 l1_2.length l1_2) (hc1_2 : l1_2.length ≤ c1_2)  (ht : modes_Check.f k a0_0 a0_1 a0_2 a0_3 a0_4 a0_5 a0_6 l0_7 l0_8 l0_9 = some 0) (u : Int) (hu : modes_alone.f k a1_0 l1_1 l1_2 a1_3 a1_4 a1_5 a1_6 a1_7 a1_8 a1_9 = some u) (h1 : u ≠ 0) :
    Calls Try.prog 6 #[.agg #[.bool a0_0, .bool a0_1, .bool a0_2, .bool a0_3, .bool a0_4, .bool a0_5, .int .i64 a0_6, .slice A0_7 l0_7.length c0_7, .slice A0_8 l0_8.length c0_8, .slice A0_9 l0_9.length c0_9], .agg #[.string a1_0, .slice A1_1 l1_1.length c1_1, .slice A1_2 l1_2.length c1_2, .bool a1_3, .string a1_4, .string a1_5, .bool a1_6, .bool a1_7, .bool a1_8, .bool a1_9], .agg #[.bool a2_0, .bool a2_1, .bool a2_2]] w fun e w' => e = .returned (.tuple #[.agg #[.bool false, .bool false, .bool false], .int .i64 u]) ∧ Below w.heap.size w w' := by
  have hb4 : Below w.heap.size w ((((w.alloc (.cells #[.bool a0_0, .bool a0_1, .bool a0_2, .bool a0_3, .bool a0_4, .bool a0_5, .int .i64 a0_6, .slice A0_7 l0_7.length c0_7, .slice A0_8 l0_8.length c0_8, .slice A0_9 l0_9.length c0_9] 25)).alloc (.cells #[.string a1_0, .slice A1_1 l1_1.length c1_1, .slice A1_2 l1_2.length c1_2, .bool a1_3, .string a1_4, .string a1_5, .bool a1_6, .bool a1_7, .bool a1_8, .bool a1_9] 27)).alloc (.cells #[.bool a2_0, .bool a2_1, .bool a2_2] 29)).alloc (.cells #[.bool false, .bool false, .bool false] 31)) := below_alloc (below_alloc (below_alloc (below_alloc (Below.refl _ _) _) _) _) _
  have g7 := Kd.C_below hr0_7 hb4
  have g8 := Kd.C_below hr0_8 hb4
  have g9 := Kd.C_below hr0_9 hb4
  have RB0 : ((((w.alloc (.cells #[.bool a0_0, .bool a0_1, .bool a0_2, .bool a0_3, .bool a0_4, .bool a0_5, .int .i64 a0_6, .slice A0_7 l0_7.length c0_7, .slice A0_8 l0_8.length c0_8, .slice A0_9 l0_9.length c0_9] 25)).alloc (.cells #[.string a1_0, .slice A1_1 l1_1.length c1_1, .slice A1_2 l1_2.length c1_2, .bool a1_3, .string a1_4, .string a1_5, .bool a1_6, .bool a1_7, .bool a1_8, .bool a1_9] 27)).alloc (.cells #[.bool a2_0, .bool a2_1, .bool a2_2] 29)).alloc (.cells #[.bool false, .bool false, .bool false] 31)).heap[w.heap.size + 1 + 1 + 1]? = some (.cells #[.bool false, .bool false, .bool false] 31 (0, 0)) := by
    have h9 := blk_new (((w.alloc (.cells #[.bool a0_0, .bool a0_1, .bool a0_2, .bool a0_3, .bool a0_4, .bool a0_5, .int .i64 a0_6, .slice A0_7 l0_7.length c0_7, .slice A0_8 l0_8.length c0_8, .slice A0_9 l0_9.length c0_9] 25)).alloc (.cells #[.string a1_0, .slice A1_1 l1_1.length c1_1, .slice A1_2 l1_2.length c1_2, .bool a1_3, .string a1_4, .string a1_5, .bool a1_6, .bool a1_7, .bool a1_8, .bool a1_9] 27)).alloc (.cells #[.bool a2_0, .bool a2_1, .bool a2_2] 29)) (.cells #[.bool false, .bool false, .bool false] 31 (0, 0))
    simpa using h9
  have RB1 := Aside0.mk RB0
  clear RB0
  have HR11 := Aside0.mk hr1_1
  have HR12 := Aside0.mk hr1_2
  have HT := Aside0.mk ht
  clear ht hb4 hr0_7 hr0_8 hr0_9 hr1_1 hr1_2
  have HU := Aside0.mk hu
  clear hu
  have e1 : ((u : Int) == 0) = false := beq_eq_false_iff_ne.mpr h1
  have e2 : ((u : Int) != 0) = true := by simpa using h1
  clear h1
  go_enter Try.func6, Try.ntmps6
  go_wp2_with (first | (go_at_call 17; refine (modes_Check.calls k a0_0 a0_1 a0_2 a0_3 a0_4 a0_5 a0_6 A0_7 c0_7 l0_7 A0_8 c0_8 l0_8 A0_9 c0_9 l0_9 _ _ g7 hc0_7 g8 hc0_8 g9 hc0_9 HT.out).mono ?_; rintro e w2 ⟨rfl, hb2⟩; have RB2 := Aside0.mk (blk_below RB1.out hb2); have hbw2 : Below w.heap.size w w2 := below_step (below_alloc (below_alloc (below_alloc (below_alloc (Below.refl w.heap.size w) _) _) _) _) hb2; have o0 : w2.cell? ⟨w.heap.size, 0, none⟩ = some (.bool a0_0) := (hb2.cell (p := ⟨w.heap.size, 0, none⟩) (by simp; try omega)).trans (by go_simp); have o1 : w2.cell? ⟨w.heap.size, 1, none⟩ = some (.bool a0_1) := (hb2.cell (p := ⟨w.heap.size, 1, none⟩) (by simp; try omega)).trans (by go_simp); have o2 : w2.cell? ⟨w.heap.size, 2, none⟩ = some (.bool a0_2) := (hb2.cell (p := ⟨w.heap.size, 2, none⟩) (by simp; try omega)).trans (by go_simp); have o3 : w2.cell? ⟨w.heap.size, 3, none⟩ = some (.bool a0_3) := (hb2.cell (p := ⟨w.heap.size, 3, none⟩) (by simp; try omega)).trans (by go_simp); have o4 : w2.cell? ⟨w.heap.size, 4, none⟩ = some (.bool a0_4) := (hb2.cell (p := ⟨w.heap.size, 4, none⟩) (by simp; try omega)).trans (by go_simp); have o5 : w2.cell? ⟨w.heap.size, 5, none⟩ = some (.bool a0_5) := (hb2.cell (p := ⟨w.heap.size, 5, none⟩) (by simp; try omega)).trans (by go_simp); have n0 : w2.cell? ⟨w.heap.size + 1, 0, none⟩ = some (.string a1_0) := (hb2.cell (p := ⟨w.heap.size + 1, 0, none⟩) (by simp; try omega)).trans (by go_simp); have n1 : w2.cell? ⟨w.heap.size + 1, 1, none⟩ = some (.slice A1_1 l1_1.length c1_1) := (hb2.cell (p := ⟨w.heap.size + 1, 1, none⟩) (by simp; try omega)).trans (by go_simp); have n2 : w2.cell? ⟨w.heap.size + 1, 2, none⟩ = some (.slice A1_2 l1_2.length c1_2) := (hb2.cell (p := ⟨w.heap.size + 1, 2, none⟩) (by simp; try omega)).trans (by go_simp); have n3 : w2.cell? ⟨w.heap.size + 1, 3, none⟩ = some (.bool a1_3) := (hb2.cell (p := ⟨w.heap.size + 1, 3, none⟩) (by simp; try omega)).trans (by go_simp); have n4 : w2.cell? ⟨w.heap.size + 1, 4, none⟩ = some (.string a1_4) := (hb2.cell (p := ⟨w.heap.size + 1, 4, none⟩) (by simp; try omega)).trans (by go_simp); have n5 : w2.cell? ⟨w.heap.size + 1, 5, none⟩ = some (.string a1_5) := (hb2.cell (p := ⟨w.heap.size + 1, 5, none⟩) (by simp; try omega)).trans (by go_simp); have n6 : w2.cell? ⟨w.heap.size + 1, 6, none⟩ = some (.bool a1_6) := (hb2.cell (p := ⟨w.heap.size + 1, 6, none⟩) (by simp; try omega)).trans (by go_simp); have n7 : w2.cell? ⟨w.heap.size + 1, 7, none⟩ = some (.bool a1_7) := (hb2.cell (p := ⟨w.heap.size + 1, 7, none⟩) (by simp; try omega)).trans (by go_simp); have n8 : w2.cell? ⟨w.heap.size + 1, 8, none⟩ = some (.bool a1_8) := (hb2.cell (p := ⟨w.heap.size + 1, 8, none⟩) (by simp; try omega)).trans (by go_simp); have n9 : w2.cell? ⟨w.heap.size + 1, 9, none⟩ = some (.bool a1_9) := (hb2.cell (p := ⟨w.heap.size + 1, 9, none⟩) (by simp; try omega)).trans (by go_simp); have f0 : w2.cell? ⟨w.heap.size + 1 + 1, 0, none⟩ = some (.bool a2_0) := (hb2.cell (p := ⟨w.heap.size + 1 + 1, 0, none⟩) (by simp; try omega)).trans (by go_simp); have f1 : w2.cell? ⟨w.heap.size + 1 + 1, 1, none⟩ = some (.bool a2_1) := (hb2.cell (p := ⟨w.heap.size + 1 + 1, 1, none⟩) (by simp; try omega)).trans (by go_simp); have f2 : w2.cell? ⟨w.heap.size + 1 + 1, 2, none⟩ = some (.bool a2_2) := (hb2.cell (p := ⟨w.heap.size + 1 + 1, 2, none⟩) (by simp; try omega)).trans (by go_simp); have r0 : w2.cell? ⟨w.heap.size + 1 + 1 + 1, 0, none⟩ = some (.bool false) := (hb2.cell (p := ⟨w.heap.size + 1 + 1 + 1, 0, none⟩) (by simp; try omega)).trans (by go_simp); have r1 : w2.cell? ⟨w.heap.size + 1 + 1 + 1, 1, none⟩ = some (.bool false) := (hb2.cell (p := ⟨w.heap.size + 1 + 1 + 1, 1, none⟩) (by simp; try omega)).trans (by go_simp); have r2 : w2.cell? ⟨w.heap.size + 1 + 1 + 1, 2, none⟩ = some (.bool false) := (hb2.cell (p := ⟨w.heap.size + 1 + 1 + 1, 2, none⟩) (by simp; try omega)).trans (by go_simp); have z0 : w2.frozen? ⟨w.heap.size + 1 + 1 + 1, 0, none⟩ = false := (hb2.frozen (p := ⟨w.heap.size + 1 + 1 + 1, 0, none⟩) (by simp; try omega)).trans (by go_simp); have z1 : w2.frozen? ⟨w.heap.size + 1 + 1 + 1, 1, none⟩ = false := (hb2.frozen (p := ⟨w.heap.size + 1 + 1 + 1, 1, none⟩) (by simp; try omega)).trans (by go_simp); have z2 : w2.frozen? ⟨w.heap.size + 1 + 1 + 1, 2, none⟩ = false := (hb2.frozen (p := ⟨w.heap.size + 1 + 1 + 1, 2, none⟩) (by simp; try omega)).trans (by go_simp)) | (go_at_call 18; refine (modes_alone.calls k a1_0 _ A1_1 c1_1 l1_1 _ A1_2 c1_2 l1_2 a1_3 a1_4 a1_5 a1_6 a1_7 a1_8 a1_9 _ _ (Kd.V_mk hc1_1 (Kd.C_F Kd.heap_string (Kd.C_below HR11.out hbw2))) (Kd.V_mk hc1_2 (Kd.C_F Kd.heap_string (Kd.C_below HR12.out hbw2))) HU.out).mono ?_; rintro e w3 ⟨rfl, hb3⟩; have RB3 := Aside0.mk (blk_below RB2.out hb3); have hbw3 := below_step hbw2 hb3; have hb3w_0 := r0; have hb3w_1 := r1; have hb3w_2 := r2; replace o0 := (hb3.cell (World.block_lt_of_cell? _ _ o0)).trans o0; replace o1 := (hb3.cell (World.block_lt_of_cell? _ _ o1)).trans o1; replace o2 := (hb3.cell (World.block_lt_of_cell? _ _ o2)).trans o2; replace o3 := (hb3.cell (World.block_lt_of_cell? _ _ o3)).trans o3; replace o4 := (hb3.cell (World.block_lt_of_cell? _ _ o4)).trans o4; replace o5 := (hb3.cell (World.block_lt_of_cell? _ _ o5)).trans o5; replace n0 := (hb3.cell (World.block_lt_of_cell? _ _ n0)).trans n0; replace n1 := (hb3.cell (World.block_lt_of_cell? _ _ n1)).trans n1; replace n2 := (hb3.cell (World.block_lt_of_cell? _ _ n2)).trans n2; replace n3 := (hb3.cell (World.block_lt_of_cell? _ _ n3)).trans n3; replace n4 := (hb3.cell (World.block_lt_of_cell? _ _ n4)).trans n4; replace n5 := (hb3.cell (World.block_lt_of_cell? _ _ n5)).trans n5; replace n6 := (hb3.cell (World.block_lt_of_cell? _ _ n6)).trans n6; replace n7 := (hb3.cell (World.block_lt_of_cell? _ _ n7)).trans n7; replace n8 := (hb3.cell (World.block_lt_of_cell? _ _ n8)).trans n8; replace n9 := (hb3.cell (World.block_lt_of_cell? _ _ n9)).trans n9; replace f0 := (hb3.cell (World.block_lt_of_cell? _ _ f0)).trans f0; replace f1 := (hb3.cell (World.block_lt_of_cell? _ _ f1)).trans f1; replace f2 := (hb3.cell (World.block_lt_of_cell? _ _ f2)).trans f2; replace r0 := (hb3.cell (World.block_lt_of_cell? _ _ r0)).trans r0; replace r1 := (hb3.cell (World.block_lt_of_cell? _ _ r1)).trans r1; replace r2 := (hb3.cell (World.block_lt_of_cell? _ _ r2)).trans r2; replace z0 := (hb3.frozen (World.block_lt_of_cell? _ _ (hb3w_0))).trans z0; replace z1 := (hb3.frozen (World.block_lt_of_cell? _ _ (hb3w_1))).trans z1; replace z2 := (hb3.frozen (World.block_lt_of_cell? _ _ (hb3w_2))).trans z2; clear hb3w_0 hb3w_1 hb3w_2))
  exact bodyPost_ret (v := .tuple #[.agg #[.bool false, .bool false, .bool false], .int .i64 u]) (by simp [results, Try.results6, go_sem, r0, r1, r2]) rfl ⟨rfl, below_set (below_set (below_set hbw3 (by omega)) (by omega)) (by omega)⟩
theorem cell_far3 {W : World} {a : Addr} {u x y z : Value} {B : Nat} (h : W.cell? a = some u) (hp : B ≠ a.block) : (((W.setCell ⟨B, 0, none⟩ x).setCell ⟨B, 1, none⟩ y).setCell ⟨B, 2, none⟩ z).cell? a = some u := by
  rw [World.cell?_setCell_far _ _ _ _ hp, World.cell?_setCell_far _ _ _ _ hp, World.cell?_setCell_far _ _ _ _ hp]; exact h
theorem blk_far3 {W : World} {g t : Nat} {cs : Array Value} {x y z : Value} {B : Nat} (h : W.heap[g]? = some (.cells cs t (0, 0))) (hp : g ≠ B) : (((W.setCell ⟨B, 0, none⟩ x).setCell ⟨B, 1, none⟩ y).setCell ⟨B, 2, none⟩ z).heap[g]? = some (.cells cs t (0, 0)) :=
  blk_far (blk_far (blk_far h hp _) hp _) hp _
theorem blk_put3 {W : World} {B t : Nat} {u v s x y z : Value} (h : W.heap[B]? = some (.cells #[u, v, s] t (0, 0))) : (((W.setCell ⟨B, 0, none⟩ x).setCell ⟨B, 1, none⟩ y).setCell ⟨B, 2, none⟩ z).heap[B]? = some (.cells #[x, y, z] t (0, 0)) :=
  blk_set (blk_set (blk_set h 0 x) 1 y) 2 z
theorem below_set3 {w W : World} {B : Nat} {x y z : Value} (h : Below w.heap.size w W) (hB : w.heap.size ≤ B) : Below w.heap.size w (((W.setCell ⟨B, 0, none⟩ x).setCell ⟨B, 1, none⟩ y).setCell ⟨B, 2, none⟩ z) := below_set (below_set (below_set h hB) hB) hB
theorem blk_top (W : World) (A M : Obj) (n : Nat) : (((W.alloc A).drewN n).alloc M).heap[W.heap.size + 1]? = some M := by
  rw [show W.heap.size + 1 = ((W.alloc A).drewN n).heap.size by simp [World.drewN]]
  exact blk_new _ _
theorem blk_top2 (W : World) (A M : Obj) : ((W.alloc A).alloc M).heap[W.heap.size + 1]? = some M := by
  rw [show W.heap.size + 1 = (W.alloc A).heap.size by simp]
  exact blk_new _ _
theorem run_no (d t q : Bool) : (cnt3 d t q == 0) = runR d t q false := by rw [cnt3_zero]; rfl
theorem forg_no (n : Bool) : n = forgR false n false := by cases n <;> rfl
section
attribute [local go_sem] World.cell?_alloc_old World.frozen?_alloc_old
set_option maxHeartbeats 20000000 in
set_option maxRecDepth 100000 in
theorem modes_Of.good (k : Nat) (a0_0 : Bool) (a0_1 : Bool) (a0_2 : Bool) (a0_3 : Bool) (a0_4 : Bool) (a0_5 : Bool) (a0_6 : Int) (A0_7 : Option Addr) (c0_7 : Nat) (l0_7 : List ByteArray) (A0_8 : Option Addr) (c0_8 : Nat) (l0_8 : List (S58)) (A0_9 : Option Addr) (c0_9 : Nat) (l0_9 : List ByteArray) (a1_0 : ByteArray) (A1_1 : Option Addr) (c1_1 : Nat) (l1_1 : List ByteArray) (A1_2 : Option Addr) (c1_2 : Nat) (l1_2 : List ByteArray) (a1_3 : Bool) (a1_4 : ByteArray) (a1_5 : ByteArray) (a1_6 : Bool) (a1_7 : Bool) (a1_8 : Bool) (a1_9 : Bool) (a2_0 : Bool) (a2_1 : Bool) (a2_2 : Bool) (w : World) (hr0_7 : Kd.C Kd.string w A0_7 l0_7.length l0_7) (hc0_7 : l0_7.length ≤ c0_7) (hr0_8 : Kd.C k58 w A0_8 l0_8.length l0_8) (hc0_8 : l0_8.length ≤ c0_8) (hr0_9 : Kd.C Kd.string w A0_9 l0_9.length l0_9) (hc0_9 : l0_9.length ≤ c0_9) (hr1_1 : Kd.C Kd.string w A1_1 l1_1.length l1_1) (hc1_1 : l1_1.length ≤ c1_1) (hr1_2 : Kd.C Kd.string w A1_2 l1_2.length l1_2) (hc1_2 : l1_2.length ≤ c1_2) (ht : modes_Check.f k a0_0 a0_1 a0_2 a0_3 a0_4 a0_5 a0_6 l0_7 l0_8 l0_9 = some 0) (hu : modes_alone.f k a1_0 l1_1 l1_2 a1_3 a1_4 a1_5 a1_6 a1_7 a1_8 a1_9 = some 0) :
    Calls Try.prog 6 #[.agg #[.bool a0_0, .bool a0_1, .bool a0_2, .bool a0_3, .bool a0_4, .bool a0_5, .int .i64 a0_6, .slice A0_7 l0_7.length c0_7, .slice A0_8 l0_8.length c0_8, .slice A0_9 l0_9.length c0_9], .agg #[.string a1_0, .slice A1_1 l1_1.length c1_1, .slice A1_2 l1_2.length c1_2, .bool a1_3, .string a1_4, .string a1_5, .bool a1_6, .bool a1_7, .bool a1_8, .bool a1_9], .agg #[.bool a2_0, .bool a2_1, .bool a2_2]] w fun e w' => e = .returned (.tuple #[.agg #[.bool (echoR a0_0 a0_1 a0_2 a0_5 a1_9 a2_1 a2_2), .bool (runR a0_0 a0_1 a0_2 a2_2), .bool (forgR a0_4 a1_8 a2_0)], .int .i64 0]) ∧ Below w.heap.size w w' := by
  have hb4 : Below w.heap.size w ((((w.alloc (.cells #[.bool a0_0, .bool a0_1, .bool a0_2, .bool a0_3, .bool a0_4, .bool a0_5, .int .i64 a0_6, .slice A0_7 l0_7.length c0_7, .slice A0_8 l0_8.length c0_8, .slice A0_9 l0_9.length c0_9] 25)).alloc (.cells #[.string a1_0, .slice A1_1 l1_1.length c1_1, .slice A1_2 l1_2.length c1_2, .bool a1_3, .string a1_4, .string a1_5, .bool a1_6, .bool a1_7, .bool a1_8, .bool a1_9] 27)).alloc (.cells #[.bool a2_0, .bool a2_1, .bool a2_2] 29)).alloc (.cells #[.bool false, .bool false, .bool false] 31)) := below_alloc (below_alloc (below_alloc (below_alloc (Below.refl _ _) _) _) _) _
  have g7 := Kd.C_below hr0_7 hb4
  have g8 := Kd.C_below hr0_8 hb4
  have g9 := Kd.C_below hr0_9 hb4
  have RB0 : ((((w.alloc (.cells #[.bool a0_0, .bool a0_1, .bool a0_2, .bool a0_3, .bool a0_4, .bool a0_5, .int .i64 a0_6, .slice A0_7 l0_7.length c0_7, .slice A0_8 l0_8.length c0_8, .slice A0_9 l0_9.length c0_9] 25)).alloc (.cells #[.string a1_0, .slice A1_1 l1_1.length c1_1, .slice A1_2 l1_2.length c1_2, .bool a1_3, .string a1_4, .string a1_5, .bool a1_6, .bool a1_7, .bool a1_8, .bool a1_9] 27)).alloc (.cells #[.bool a2_0, .bool a2_1, .bool a2_2] 29)).alloc (.cells #[.bool false, .bool false, .bool false] 31)).heap[w.heap.size + 1 + 1 + 1]? = some (.cells #[.bool false, .bool false, .bool false] 31 (0, 0)) := by
    have h9 := blk_new (((w.alloc (.cells #[.bool a0_0, .bool a0_1, .bool a0_2, .bool a0_3, .bool a0_4, .bool a0_5, .int .i64 a0_6, .slice A0_7 l0_7.length c0_7, .slice A0_8 l0_8.length c0_8, .slice A0_9 l0_9.length c0_9] 25)).alloc (.cells #[.string a1_0, .slice A1_1 l1_1.length c1_1, .slice A1_2 l1_2.length c1_2, .bool a1_3, .string a1_4, .string a1_5, .bool a1_6, .bool a1_7, .bool a1_8, .bool a1_9] 27)).alloc (.cells #[.bool a2_0, .bool a2_1, .bool a2_2] 29)) (.cells #[.bool false, .bool false, .bool false] 31 (0, 0))
    simpa using h9
  have RB1 := Aside0.mk RB0
  clear RB0
  have HR11 := Aside0.mk hr1_1
  have HR12 := Aside0.mk hr1_2
  have HT := Aside0.mk ht
  clear ht hb4 hr0_7 hr0_8 hr0_9 hr1_1 hr1_2
  have HU := Aside0.mk hu
  clear hu
  obtain ⟨run, hrun⟩ : ∃ run, runR a0_0 a0_1 a0_2 a2_2 = run := ⟨_, rfl⟩
  obtain ⟨forg, hforg⟩ : ∃ forg, forgR a0_4 a1_8 a2_0 = forg := ⟨_, rfl⟩
  obtain ⟨echo, hecho⟩ : ∃ echo, echoR a0_0 a0_1 a0_2 a0_5 a1_9 a2_1 a2_2 = echo := ⟨_, rfl⟩
  rw [hrun, hforg, hecho]
  have HRUN := Aside0.mk hrun
  have HFORG := Aside0.mk hforg
  have HECHO := Aside0.mk hecho
  clear hrun hforg hecho
  go_enter Try.func6, Try.ntmps6
  go_wp2_with (first | (go_at_call 17; refine (modes_Check.calls k a0_0 a0_1 a0_2 a0_3 a0_4 a0_5 a0_6 A0_7 c0_7 l0_7 A0_8 c0_8 l0_8 A0_9 c0_9 l0_9 _ _ g7 hc0_7 g8 hc0_8 g9 hc0_9 HT.out).mono ?_; rintro e w2 ⟨rfl, hb2⟩; have RB2 := Aside0.mk (blk_below RB1.out hb2); have hbw2 : Below w.heap.size w w2 := below_step (below_alloc (below_alloc (below_alloc (below_alloc (Below.refl w.heap.size w) _) _) _) _) hb2; have o0 : w2.cell? ⟨w.heap.size, 0, none⟩ = some (.bool a0_0) := (hb2.cell (p := ⟨w.heap.size, 0, none⟩) (by simp; try omega)).trans (by go_simp); have o1 : w2.cell? ⟨w.heap.size, 1, none⟩ = some (.bool a0_1) := (hb2.cell (p := ⟨w.heap.size, 1, none⟩) (by simp; try omega)).trans (by go_simp); have o2 : w2.cell? ⟨w.heap.size, 2, none⟩ = some (.bool a0_2) := (hb2.cell (p := ⟨w.heap.size, 2, none⟩) (by simp; try omega)).trans (by go_simp); have o3 : w2.cell? ⟨w.heap.size, 3, none⟩ = some (.bool a0_3) := (hb2.cell (p := ⟨w.heap.size, 3, none⟩) (by simp; try omega)).trans (by go_simp); have o4 : w2.cell? ⟨w.heap.size, 4, none⟩ = some (.bool a0_4) := (hb2.cell (p := ⟨w.heap.size, 4, none⟩) (by simp; try omega)).trans (by go_simp); have o5 : w2.cell? ⟨w.heap.size, 5, none⟩ = some (.bool a0_5) := (hb2.cell (p := ⟨w.heap.size, 5, none⟩) (by simp; try omega)).trans (by go_simp); have n0 : w2.cell? ⟨w.heap.size + 1, 0, none⟩ = some (.string a1_0) := (hb2.cell (p := ⟨w.heap.size + 1, 0, none⟩) (by simp; try omega)).trans (by go_simp); have n1 : w2.cell? ⟨w.heap.size + 1, 1, none⟩ = some (.slice A1_1 l1_1.length c1_1) := (hb2.cell (p := ⟨w.heap.size + 1, 1, none⟩) (by simp; try omega)).trans (by go_simp); have n2 : w2.cell? ⟨w.heap.size + 1, 2, none⟩ = some (.slice A1_2 l1_2.length c1_2) := (hb2.cell (p := ⟨w.heap.size + 1, 2, none⟩) (by simp; try omega)).trans (by go_simp); have n3 : w2.cell? ⟨w.heap.size + 1, 3, none⟩ = some (.bool a1_3) := (hb2.cell (p := ⟨w.heap.size + 1, 3, none⟩) (by simp; try omega)).trans (by go_simp); have n4 : w2.cell? ⟨w.heap.size + 1, 4, none⟩ = some (.string a1_4) := (hb2.cell (p := ⟨w.heap.size + 1, 4, none⟩) (by simp; try omega)).trans (by go_simp); have n5 : w2.cell? ⟨w.heap.size + 1, 5, none⟩ = some (.string a1_5) := (hb2.cell (p := ⟨w.heap.size + 1, 5, none⟩) (by simp; try omega)).trans (by go_simp); have n6 : w2.cell? ⟨w.heap.size + 1, 6, none⟩ = some (.bool a1_6) := (hb2.cell (p := ⟨w.heap.size + 1, 6, none⟩) (by simp; try omega)).trans (by go_simp); have n7 : w2.cell? ⟨w.heap.size + 1, 7, none⟩ = some (.bool a1_7) := (hb2.cell (p := ⟨w.heap.size + 1, 7, none⟩) (by simp; try omega)).trans (by go_simp); have n8 : w2.cell? ⟨w.heap.size + 1, 8, none⟩ = some (.bool a1_8) := (hb2.cell (p := ⟨w.heap.size + 1, 8, none⟩) (by simp; try omega)).trans (by go_simp); have n9 : w2.cell? ⟨w.heap.size + 1, 9, none⟩ = some (.bool a1_9) := (hb2.cell (p := ⟨w.heap.size + 1, 9, none⟩) (by simp; try omega)).trans (by go_simp); have f0 : w2.cell? ⟨w.heap.size + 1 + 1, 0, none⟩ = some (.bool a2_0) := (hb2.cell (p := ⟨w.heap.size + 1 + 1, 0, none⟩) (by simp; try omega)).trans (by go_simp); have f1 : w2.cell? ⟨w.heap.size + 1 + 1, 1, none⟩ = some (.bool a2_1) := (hb2.cell (p := ⟨w.heap.size + 1 + 1, 1, none⟩) (by simp; try omega)).trans (by go_simp); have f2 : w2.cell? ⟨w.heap.size + 1 + 1, 2, none⟩ = some (.bool a2_2) := (hb2.cell (p := ⟨w.heap.size + 1 + 1, 2, none⟩) (by simp; try omega)).trans (by go_simp); have r0 : w2.cell? ⟨w.heap.size + 1 + 1 + 1, 0, none⟩ = some (.bool false) := (hb2.cell (p := ⟨w.heap.size + 1 + 1 + 1, 0, none⟩) (by simp; try omega)).trans (by go_simp); have r1 : w2.cell? ⟨w.heap.size + 1 + 1 + 1, 1, none⟩ = some (.bool false) := (hb2.cell (p := ⟨w.heap.size + 1 + 1 + 1, 1, none⟩) (by simp; try omega)).trans (by go_simp); have r2 : w2.cell? ⟨w.heap.size + 1 + 1 + 1, 2, none⟩ = some (.bool false) := (hb2.cell (p := ⟨w.heap.size + 1 + 1 + 1, 2, none⟩) (by simp; try omega)).trans (by go_simp); have z0 : w2.frozen? ⟨w.heap.size + 1 + 1 + 1, 0, none⟩ = false := (hb2.frozen (p := ⟨w.heap.size + 1 + 1 + 1, 0, none⟩) (by simp; try omega)).trans (by go_simp); have z1 : w2.frozen? ⟨w.heap.size + 1 + 1 + 1, 1, none⟩ = false := (hb2.frozen (p := ⟨w.heap.size + 1 + 1 + 1, 1, none⟩) (by simp; try omega)).trans (by go_simp); have z2 : w2.frozen? ⟨w.heap.size + 1 + 1 + 1, 2, none⟩ = false := (hb2.frozen (p := ⟨w.heap.size + 1 + 1 + 1, 2, none⟩) (by simp; try omega)).trans (by go_simp)) | (go_at_call 18; refine (modes_alone.calls k a1_0 _ A1_1 c1_1 l1_1 _ A1_2 c1_2 l1_2 a1_3 a1_4 a1_5 a1_6 a1_7 a1_8 a1_9 _ _ (Kd.V_mk hc1_1 (Kd.C_F Kd.heap_string (Kd.C_below HR11.out hbw2))) (Kd.V_mk hc1_2 (Kd.C_F Kd.heap_string (Kd.C_below HR12.out hbw2))) HU.out).mono ?_; rintro e w3 ⟨rfl, hb3⟩; have RB3 := Aside0.mk (blk_below RB2.out hb3); have hbw3 := below_step hbw2 hb3; have hb3w_0 := r0; have hb3w_1 := r1; have hb3w_2 := r2; replace o0 := (hb3.cell (World.block_lt_of_cell? _ _ o0)).trans o0; replace o1 := (hb3.cell (World.block_lt_of_cell? _ _ o1)).trans o1; replace o2 := (hb3.cell (World.block_lt_of_cell? _ _ o2)).trans o2; replace o3 := (hb3.cell (World.block_lt_of_cell? _ _ o3)).trans o3; replace o4 := (hb3.cell (World.block_lt_of_cell? _ _ o4)).trans o4; replace o5 := (hb3.cell (World.block_lt_of_cell? _ _ o5)).trans o5; replace n0 := (hb3.cell (World.block_lt_of_cell? _ _ n0)).trans n0; replace n1 := (hb3.cell (World.block_lt_of_cell? _ _ n1)).trans n1; replace n2 := (hb3.cell (World.block_lt_of_cell? _ _ n2)).trans n2; replace n3 := (hb3.cell (World.block_lt_of_cell? _ _ n3)).trans n3; replace n4 := (hb3.cell (World.block_lt_of_cell? _ _ n4)).trans n4; replace n5 := (hb3.cell (World.block_lt_of_cell? _ _ n5)).trans n5; replace n6 := (hb3.cell (World.block_lt_of_cell? _ _ n6)).trans n6; replace n7 := (hb3.cell (World.block_lt_of_cell? _ _ n7)).trans n7; replace n8 := (hb3.cell (World.block_lt_of_cell? _ _ n8)).trans n8; replace n9 := (hb3.cell (World.block_lt_of_cell? _ _ n9)).trans n9; replace f0 := (hb3.cell (World.block_lt_of_cell? _ _ f0)).trans f0; replace f1 := (hb3.cell (World.block_lt_of_cell? _ _ f1)).trans f1; replace f2 := (hb3.cell (World.block_lt_of_cell? _ _ f2)).trans f2; replace r0 := (hb3.cell (World.block_lt_of_cell? _ _ r0)).trans r0; replace r1 := (hb3.cell (World.block_lt_of_cell? _ _ r1)).trans r1; replace r2 := (hb3.cell (World.block_lt_of_cell? _ _ r2)).trans r2; replace z0 := (hb3.frozen (World.block_lt_of_cell? _ _ (hb3w_0))).trans z0; replace z1 := (hb3.frozen (World.block_lt_of_cell? _ _ (hb3w_1))).trans z1; replace z2 := (hb3.frozen (World.block_lt_of_cell? _ _ (hb3w_2))).trans z2; clear hb3w_0 hb3w_1 hb3w_2))
  have hlt3 := World.block_lt_of_cell? _ _ r0
  clear n0 n1 n2 n3 n4 n5 n6 n7 hb2 hb3 HT HU HR11 HR12 g7 g8 g9 o3
  have n0 := World.new_ne _ _ o0
  have n1 := World.new_ne _ _ n8
  have n2 := World.new_ne _ _ f0
  have n3 := World.new_ne _ _ r0
  dsimp only at n0 n1 n2 n3
  have hsz3 := hbw3.size
  have hlt4 : w.heap.size + 1 + 1 + 1 < w3.heap.size := hlt3
  have m0 : w3.heap.size + 1 ≠ w.heap.size := by omega
  have m1 : w3.heap.size + 1 ≠ w.heap.size + 1 := by omega
  have m2 : w3.heap.size + 1 ≠ w.heap.size + 1 + 1 := by omega
  have m3 : w3.heap.size + 1 ≠ w.heap.size + 1 + 1 + 1 := by omega
  have y00 : w.heap.size ≠ w3.heap.size := by omega
  have y01 : w.heap.size + 1 ≠ w3.heap.size := by omega
  have y02 : w.heap.size + 1 + 1 ≠ w3.heap.size := by omega
  have y03 : w.heap.size + 1 + 1 + 1 ≠ w3.heap.size := by omega
  have y10 : w.heap.size ≠ w3.heap.size + 1 := by omega
  have y11 : w.heap.size + 1 ≠ w3.heap.size + 1 := by omega
  have y12 : w.heap.size + 1 + 1 ≠ w3.heap.size + 1 := by omega
  have y13 : w.heap.size + 1 + 1 + 1 ≠ w3.heap.size + 1 := by omega
  have y20 : w.heap.size ≠ w3.heap.size + 1 + 1 := by omega
  have y21 : w.heap.size + 1 ≠ w3.heap.size + 1 + 1 := by omega
  have y22 : w.heap.size + 1 + 1 ≠ w3.heap.size + 1 + 1 := by omega
  have y23 : w.heap.size + 1 + 1 + 1 ≠ w3.heap.size + 1 + 1 := by omega
  have x20 : w3.heap.size + 1 + 1 ≠ w.heap.size := by omega
  have x21 : w3.heap.size + 1 + 1 ≠ w.heap.size + 1 := by omega
  have x22 : w3.heap.size + 1 + 1 ≠ w.heap.size + 1 + 1 := by omega
  have x23 : w3.heap.size + 1 + 1 ≠ w.heap.size + 1 + 1 + 1 := by omega
  have p0 : w3.heap.size ≠ w.heap.size := by omega
  have p1 : w3.heap.size ≠ w.heap.size + 1 := by omega
  have p2 : w3.heap.size ≠ w.heap.size + 1 + 1 := by omega
  have p3 : w3.heap.size ≠ w.heap.size + 1 + 1 + 1 := by omega
  have Ao0 := fun o => Lib.cell?_alloc_some (W := w3) o o0
  have AAo0 := fun o o2 => Lib.cell?_alloc_some (W := w3.alloc o) o2 (Ao0 o)
  have Ao1 := fun o => Lib.cell?_alloc_some (W := w3) o o1
  have AAo1 := fun o o2 => Lib.cell?_alloc_some (W := w3.alloc o) o2 (Ao1 o)
  have Ao2 := fun o => Lib.cell?_alloc_some (W := w3) o o2
  have AAo2 := fun o o2 => Lib.cell?_alloc_some (W := w3.alloc o) o2 (Ao2 o)
  have Ao4 := fun o => Lib.cell?_alloc_some (W := w3) o o4
  have AAo4 := fun o o2 => Lib.cell?_alloc_some (W := w3.alloc o) o2 (Ao4 o)
  have Ao5 := fun o => Lib.cell?_alloc_some (W := w3) o o5
  have AAo5 := fun o o2 => Lib.cell?_alloc_some (W := w3.alloc o) o2 (Ao5 o)
  have An8 := fun o => Lib.cell?_alloc_some (W := w3) o n8
  have AAn8 := fun o o2 => Lib.cell?_alloc_some (W := w3.alloc o) o2 (An8 o)
  have An9 := fun o => Lib.cell?_alloc_some (W := w3) o n9
  have AAn9 := fun o o2 => Lib.cell?_alloc_some (W := w3.alloc o) o2 (An9 o)
  have Af0 := fun o => Lib.cell?_alloc_some (W := w3) o f0
  have AAf0 := fun o o2 => Lib.cell?_alloc_some (W := w3.alloc o) o2 (Af0 o)
  have Af1 := fun o => Lib.cell?_alloc_some (W := w3) o f1
  have AAf1 := fun o o2 => Lib.cell?_alloc_some (W := w3.alloc o) o2 (Af1 o)
  have Af2 := fun o => Lib.cell?_alloc_some (W := w3) o f2
  have AAf2 := fun o o2 => Lib.cell?_alloc_some (W := w3.alloc o) o2 (Af2 o)
  have Ar0 := fun o => Lib.cell?_alloc_some (W := w3) o r0
  have AAr0 := fun o o2 => Lib.cell?_alloc_some (W := w3.alloc o) o2 (Ar0 o)
  have Ar1 := fun o => Lib.cell?_alloc_some (W := w3) o r1
  have AAr1 := fun o o2 => Lib.cell?_alloc_some (W := w3.alloc o) o2 (Ar1 o)
  have Ar2 := fun o => Lib.cell?_alloc_some (W := w3) o r2
  have AAr2 := fun o o2 => Lib.cell?_alloc_some (W := w3.alloc o) o2 (Ar2 o)
  have AGo0 := fun (o o2 : Obj) (q : Nat) => Lib.cell?_alloc_some (W := (w3.alloc o).drewN q) o2 (Ao0 o)
  have AGo1 := fun (o o2 : Obj) (q : Nat) => Lib.cell?_alloc_some (W := (w3.alloc o).drewN q) o2 (Ao1 o)
  have AGo2 := fun (o o2 : Obj) (q : Nat) => Lib.cell?_alloc_some (W := (w3.alloc o).drewN q) o2 (Ao2 o)
  have AGo4 := fun (o o2 : Obj) (q : Nat) => Lib.cell?_alloc_some (W := (w3.alloc o).drewN q) o2 (Ao4 o)
  have AGo5 := fun (o o2 : Obj) (q : Nat) => Lib.cell?_alloc_some (W := (w3.alloc o).drewN q) o2 (Ao5 o)
  have AGn8 := fun (o o2 : Obj) (q : Nat) => Lib.cell?_alloc_some (W := (w3.alloc o).drewN q) o2 (An8 o)
  have AGn9 := fun (o o2 : Obj) (q : Nat) => Lib.cell?_alloc_some (W := (w3.alloc o).drewN q) o2 (An9 o)
  have AGf0 := fun (o o2 : Obj) (q : Nat) => Lib.cell?_alloc_some (W := (w3.alloc o).drewN q) o2 (Af0 o)
  have AGf1 := fun (o o2 : Obj) (q : Nat) => Lib.cell?_alloc_some (W := (w3.alloc o).drewN q) o2 (Af1 o)
  have AGf2 := fun (o o2 : Obj) (q : Nat) => Lib.cell?_alloc_some (W := (w3.alloc o).drewN q) o2 (Af2 o)
  have AGr0 := fun (o o2 : Obj) (q : Nat) => Lib.cell?_alloc_some (W := (w3.alloc o).drewN q) o2 (Ar0 o)
  have AGr1 := fun (o o2 : Obj) (q : Nat) => Lib.cell?_alloc_some (W := (w3.alloc o).drewN q) o2 (Ar1 o)
  have AGr2 := fun (o o2 : Obj) (q : Nat) => Lib.cell?_alloc_some (W := (w3.alloc o).drewN q) o2 (Ar2 o)
  have F0 := fun (o : Obj) => (World.frozen?_alloc_old w3 o ⟨w.heap.size + 1 + 1 + 1, 0, none⟩ (by show w.heap.size + 1 + 1 + 1 ≠ w3.heap.size; omega)).trans z0
  have FF0 := fun (o o2 : Obj) => (World.frozen?_alloc_old (w3.alloc o) o2 ⟨w.heap.size + 1 + 1 + 1, 0, none⟩ (by show w.heap.size + 1 + 1 + 1 ≠ (w3.alloc o).heap.size; simp; omega)).trans (F0 o)
  have FG0 := fun (o o2 : Obj) (q : Nat) => (World.frozen?_alloc_old ((w3.alloc o).drewN q) o2 ⟨w.heap.size + 1 + 1 + 1, 0, none⟩ (by show w.heap.size + 1 + 1 + 1 ≠ (w3.alloc o).heap.size; simp; omega)).trans (F0 o)
  have F1 := fun (o : Obj) => (World.frozen?_alloc_old w3 o ⟨w.heap.size + 1 + 1 + 1, 1, none⟩ (by show w.heap.size + 1 + 1 + 1 ≠ w3.heap.size; omega)).trans z1
  have FF1 := fun (o o2 : Obj) => (World.frozen?_alloc_old (w3.alloc o) o2 ⟨w.heap.size + 1 + 1 + 1, 1, none⟩ (by show w.heap.size + 1 + 1 + 1 ≠ (w3.alloc o).heap.size; simp; omega)).trans (F1 o)
  have FG1 := fun (o o2 : Obj) (q : Nat) => (World.frozen?_alloc_old ((w3.alloc o).drewN q) o2 ⟨w.heap.size + 1 + 1 + 1, 1, none⟩ (by show w.heap.size + 1 + 1 + 1 ≠ (w3.alloc o).heap.size; simp; omega)).trans (F1 o)
  have F2 := fun (o : Obj) => (World.frozen?_alloc_old w3 o ⟨w.heap.size + 1 + 1 + 1, 2, none⟩ (by show w.heap.size + 1 + 1 + 1 ≠ w3.heap.size; omega)).trans z2
  have FF2 := fun (o o2 : Obj) => (World.frozen?_alloc_old (w3.alloc o) o2 ⟨w.heap.size + 1 + 1 + 1, 2, none⟩ (by show w.heap.size + 1 + 1 + 1 ≠ (w3.alloc o).heap.size; simp; omega)).trans (F2 o)
  have FG2 := fun (o o2 : Obj) (q : Nat) => (World.frozen?_alloc_old ((w3.alloc o).drewN q) o2 ⟨w.heap.size + 1 + 1 + 1, 2, none⟩ (by show w.heap.size + 1 + 1 + 1 ≠ (w3.alloc o).heap.size; simp; omega)).trans (F2 o)
  go_cut [10] (fun s10 wx => ∃ B, s10 = .pointer (some ⟨B, 0, none⟩) ∧ w.heap.size + 1 + 1 + 1 < B ∧ Aside0 (wx.heap[B]? = some (.cells #[.bool false, .bool (runR a0_0 a0_1 a0_2 a2_2), .bool (forgR a0_4 a1_8 a2_0)] 31 (0, 0))) ∧ Aside0 (wx.heap[w.heap.size + 1 + 1 + 1]? = some (.cells #[.bool false, .bool false, .bool false] 31 (0, 0))) ∧ Aside0 (Below w.heap.size w wx) ∧ wx.cell? ⟨w.heap.size, 0, none⟩ = some (.bool a0_0) ∧ wx.cell? ⟨w.heap.size, 1, none⟩ = some (.bool a0_1) ∧ wx.cell? ⟨w.heap.size, 2, none⟩ = some (.bool a0_2) ∧ wx.cell? ⟨w.heap.size, 5, none⟩ = some (.bool a0_5) ∧ wx.cell? ⟨w.heap.size + 1, 9, none⟩ = some (.bool a1_9) ∧ wx.cell? ⟨w.heap.size + 1 + 1, 1, none⟩ = some (.bool a2_1))
  case first =>
    cases a2_2 with
    | true =>
      cases a2_0 with
      | true =>
        go_region
        all_goals
          go_wp2_with fail
          go_meet
          case rel => exact ⟨w3.heap.size, rfl, by omega, ⟨blk_drew (blk_new _ _)⟩, ⟨blk_drew (blk_alloc RB3.out _)⟩, ⟨below_drew (below_alloc hbw3 _)⟩, Lib.cell?_alloc_some _ o0, Lib.cell?_alloc_some _ o1, Lib.cell?_alloc_some _ o2, Lib.cell?_alloc_some _ o5, Lib.cell?_alloc_some _ n9, Lib.cell?_alloc_some _ f1⟩
      | false =>
        cases a0_4 with
        | true =>
          go_region
          all_goals
            go_wp2_with fail
            go_meet
            case rel => exact ⟨w3.heap.size, rfl, by omega, ⟨blk_drew (blk_new _ _)⟩, ⟨blk_drew (blk_alloc RB3.out _)⟩, ⟨below_drew (below_alloc hbw3 _)⟩, Lib.cell?_alloc_some _ o0, Lib.cell?_alloc_some _ o1, Lib.cell?_alloc_some _ o2, Lib.cell?_alloc_some _ o5, Lib.cell?_alloc_some _ n9, Lib.cell?_alloc_some _ f1⟩
        | false =>
          go_region
          all_goals
            go_wp2_with fail
            go_meet
            case rel => exact ⟨w3.heap.size, rfl, by omega, ⟨blk_drew (blk_new _ _)⟩, ⟨blk_drew (blk_alloc RB3.out _)⟩, ⟨below_drew (below_alloc hbw3 _)⟩, Lib.cell?_alloc_some _ o0, Lib.cell?_alloc_some _ o1, Lib.cell?_alloc_some _ o2, Lib.cell?_alloc_some _ o5, Lib.cell?_alloc_some _ n9, Lib.cell?_alloc_some _ f1⟩
    | false =>
      cases a2_0 with
      | true =>
        refine wp_region_held_drew (S := (fun w' => w'.cell? ⟨w.heap.size, 0, none⟩ = some (.bool a0_0) ∧ w'.cell? ⟨w.heap.size, 1, none⟩ = some (.bool a0_1) ∧ w'.cell? ⟨w.heap.size, 2, none⟩ = some (.bool a0_2) ∧ w'.cell? ⟨w.heap.size, 4, none⟩ = some (.bool a0_4) ∧ w'.cell? ⟨w.heap.size, 5, none⟩ = some (.bool a0_5) ∧ w'.cell? ⟨w.heap.size + 1, 8, none⟩ = some (.bool a1_8) ∧ w'.cell? ⟨w.heap.size + 1, 9, none⟩ = some (.bool a1_9) ∧ w'.cell? ⟨w.heap.size + 1 + 1, 0, none⟩ = some (.bool true) ∧ w'.cell? ⟨w.heap.size + 1 + 1, 1, none⟩ = some (.bool a2_1) ∧ w'.cell? ⟨w.heap.size + 1 + 1, 2, none⟩ = some (.bool false))) (by kernel_rfl) ?_ (fun hHeld => ?_)
        · (try dsimp only); go_keep
        refine wpAnyH_take (i := 0) (v := ?_) rfl (by kernel_rfl) (by kernel_rfl) (by kernel_rfl) (fun _ _ _ h => h) (Or.inl ⟨by rfl, ?_⟩) (by assumption) ?_
        rotate_left
        · intro w hSw; (try dsimp only at hSw); go_simp; (try with_reducible rfl)
        try simp only [List.getElem_toArray, List.getElem_cons_zero, List.getElem_cons_succ, Act.put, List.setIfInBounds_toArray, List.set_cons_zero, List.set_cons_succ]
        refine wpAnyH_take (i := 1) (v := ?_) rfl (by kernel_rfl) (by kernel_rfl) (by kernel_rfl) (fun _ _ _ h => h) (Or.inl ⟨by rfl, ?_⟩) (by assumption) ?_
        rotate_left
        · intro w hSw; (try dsimp only at hSw); go_simp; (try with_reducible rfl)
        try simp only [List.getElem_toArray, List.getElem_cons_zero, List.getElem_cons_succ, Act.put, List.setIfInBounds_toArray, List.set_cons_zero, List.set_cons_succ]
        refine wpAnyH_take (i := 2) (v := ?_) rfl (by kernel_rfl) (by kernel_rfl) (by kernel_rfl) (fun _ _ _ h => h) (Or.inl ⟨by rfl, ?_⟩) (by assumption) ?_
        rotate_left
        · intro w hSw; (try dsimp only at hSw); go_simp; (try with_reducible rfl)
        try simp only [List.getElem_toArray, List.getElem_cons_zero, List.getElem_cons_succ, Act.put, List.setIfInBounds_toArray, List.set_cons_zero, List.set_cons_succ]
        refine wpAnyH_take (i := 3) (v := ?_) rfl (by kernel_rfl) (by kernel_rfl) (by kernel_rfl) (fun _ _ _ h => h) (Or.inl ⟨by rfl, ?_⟩) (by assumption) ?_
        rotate_left
        · intro w hSw; (try dsimp only at hSw); go_simp; (try with_reducible rfl)
        try simp only [List.getElem_toArray, List.getElem_cons_zero, List.getElem_cons_succ, Act.put, List.setIfInBounds_toArray, List.set_cons_zero, List.set_cons_succ]
        refine wpAnyH_take (i := 4) (v := ?_) rfl (by kernel_rfl) (by kernel_rfl) (by kernel_rfl) (fun _ _ _ h => h) (Or.inl ⟨by rfl, ?_⟩) (by assumption) ?_
        rotate_left
        · intro w hSw; (try dsimp only at hSw); go_simp; (try with_reducible rfl)
        try simp only [List.getElem_toArray, List.getElem_cons_zero, List.getElem_cons_succ, Act.put, List.setIfInBounds_toArray, List.set_cons_zero, List.set_cons_succ]
        refine wpAnyH_take (i := 5) (v := ?_) rfl (by kernel_rfl) (by kernel_rfl) (by kernel_rfl) (fun _ _ _ h => h) (Or.inl ⟨by rfl, ?_⟩) (by assumption) ?_
        rotate_left
        · intro w hSw; (try dsimp only at hSw); go_simp; (try with_reducible rfl)
        try simp only [List.getElem_toArray, List.getElem_cons_zero, List.getElem_cons_succ, Act.put, List.setIfInBounds_toArray, List.set_cons_zero, List.set_cons_succ]
        refine wpAnyH_take (i := 6) (v := ?_) rfl (by kernel_rfl) (by kernel_rfl) (by kernel_rfl) (fun _ _ _ h => h) (Or.inl ⟨by rfl, ?_⟩) (by assumption) ?_
        rotate_left
        · intro w hSw; (try dsimp only at hSw); go_simp; (try with_reducible rfl)
        try simp only [List.getElem_toArray, List.getElem_cons_zero, List.getElem_cons_succ, Act.put, List.setIfInBounds_toArray, List.set_cons_zero, List.set_cons_succ]
        refine wpAnyH_take (i := 7) (v := ?_) rfl (by kernel_rfl) (by kernel_rfl) (by kernel_rfl) (fun _ _ _ h => h) (Or.inl ⟨by rfl, ?_⟩) (by assumption) ?_
        rotate_left
        · intro w hSw; (try dsimp only at hSw); go_simp; (try with_reducible rfl)
        try simp only [List.getElem_toArray, List.getElem_cons_zero, List.getElem_cons_succ, Act.put, List.setIfInBounds_toArray, List.set_cons_zero, List.set_cons_succ]
        refine wpAnyH_take (i := 8) (v := ?_) rfl (by kernel_rfl) (by kernel_rfl) (by kernel_rfl) (fun _ _ _ h => h) (Or.inl ⟨by rfl, ?_⟩) (by assumption) ?_
        rotate_left
        · intro w hSw; (try dsimp only at hSw); go_simp; (try with_reducible rfl)
        try simp only [List.getElem_toArray, List.getElem_cons_zero, List.getElem_cons_succ, Act.put, List.setIfInBounds_toArray, List.set_cons_zero, List.set_cons_succ]
        refine wpAnyH_take (i := 13) (v := ?_) rfl (by kernel_rfl) (by kernel_rfl) (by kernel_rfl) (fun _ _ _ h => h) (Or.inl ⟨by rfl, ?_⟩) (by assumption) ?_
        rotate_left
        · intro w hSw; (try dsimp only at hSw); go_simp; (try with_reducible rfl)
        try simp only [List.getElem_toArray, List.getElem_cons_zero, List.getElem_cons_succ, Act.put, List.setIfInBounds_toArray, List.set_cons_zero, List.set_cons_succ]
        refine wpAnyH_take (i := 14) (v := ?_) rfl (by kernel_rfl) (by kernel_rfl) (by kernel_rfl) (fun _ _ _ h => h) (Or.inl ⟨by rfl, ?_⟩) (by assumption) ?_
        rotate_left
        · intro w hSw; (try dsimp only at hSw); go_simp; (try with_reducible rfl)
        try simp only [List.getElem_toArray, List.getElem_cons_zero, List.getElem_cons_succ, Act.put, List.setIfInBounds_toArray, List.set_cons_zero, List.set_cons_succ]
        refine wpAnyH_ready (rs := [9, 24]) (by kernel_rfl) (by simp) ?_
        refine AllReadyH.cons rfl (fun K hK => ?_) ?_
        · go_simp
          refine hK.out _ _ ?_ (fun hHeld => ?_)
          · (try dsimp only); go_keep
          clear hK K
          try simp only [List.getElem_toArray, List.getElem_cons_zero, List.getElem_cons_succ, Act.put, List.setIfInBounds_toArray, List.set_cons_zero, List.set_cons_succ]
          refine wpAnyH_ready (rs := [10, 24]) (by kernel_rfl) (by simp) ?_
          refine AllReadyH.cons rfl (fun K hK => ?_) ?_
          · go_simp
            (first | ((with_reducible refine (set3_new a0_0 a0_1 a0_2 _).mono ?_); rintro e w' ⟨rfl, q5, rfl⟩) | ((with_reducible refine (set3_new1 a0_0 a0_1 a0_2 _).mono ?_); rintro e w' ⟨rfl, q5, rfl⟩) | ((with_reducible refine (set3_new2 a0_0 a0_1 a0_2 _ _).mono ?_); rintro e w' ⟨rfl, q5, rfl⟩) | ((with_reducible refine (set3_new4 a0_0 a0_1 a0_2 _ _).mono ?_); rintro e w' ⟨rfl, q5, rfl⟩) | ((with_reducible refine (set3_new5 a0_0 a0_1 a0_2 _ _).mono ?_); rintro e w' ⟨rfl, q5, rfl⟩) | ((with_reducible refine (set3_new6 a0_0 a0_1 a0_2 _ _).mono ?_); rintro e w' ⟨rfl, q5, rfl⟩))
            try go_wp2_with fail
            refine hK.out _ _ ?_ (fun hHeld => ?_)
            · (try dsimp only); go_keep
            clear hK K
            try simp only [List.getElem_toArray, List.getElem_cons_zero, List.getElem_cons_succ, Act.put, List.setIfInBounds_toArray, List.set_cons_zero, List.set_cons_succ]
            refine wpAnyH_take (i := 11) (v := ?_) rfl (by kernel_rfl) (by kernel_rfl) (by kernel_rfl) (fun _ _ _ h => h) (Or.inl ⟨by rfl, ?_⟩) (by assumption) ?_
            rotate_left
            · intro w hSw; (try dsimp only at hSw); go_simp; (try with_reducible rfl)
            try simp only [List.getElem_toArray, List.getElem_cons_zero, List.getElem_cons_succ, Act.put, List.setIfInBounds_toArray, List.set_cons_zero, List.set_cons_succ]
            refine wpAnyH_take (i := 12) (v := ?_) rfl (by kernel_rfl) (by kernel_rfl) (by kernel_rfl) (fun _ _ _ h => h) (Or.inl ⟨by rfl, ?_⟩) (by assumption) ?_
            rotate_left
            · intro w hSw; (try dsimp only at hSw); go_simp; (try with_reducible rfl)
            try simp only [List.getElem_toArray, List.getElem_cons_zero, List.getElem_cons_succ, Act.put, List.setIfInBounds_toArray, List.set_cons_zero, List.set_cons_succ]
            refine wpAnyH_take (i := 15) (v := ?_) rfl (by kernel_rfl) (by kernel_rfl) (by kernel_rfl) (fun _ _ _ h => h) (Or.inl ⟨by rfl, ?_⟩) (by assumption) ?_
            rotate_left
            · intro w hSw; (try dsimp only at hSw); go_simp; (try with_reducible rfl)
            try simp only [List.getElem_toArray, List.getElem_cons_zero, List.getElem_cons_succ, Act.put, List.setIfInBounds_toArray, List.set_cons_zero, List.set_cons_succ]
            refine wpAnyH_take (i := 16) (v := undef) rfl (by kernel_rfl) (by kernel_rfl) (by kernel_rfl) (fun _ _ _ h => h) (Or.inr ⟨by rfl, rfl⟩) (by assumption) ?_
            try simp only [List.getElem_toArray, List.getElem_cons_zero, List.getElem_cons_succ, Act.put, List.setIfInBounds_toArray, List.set_cons_zero, List.set_cons_succ]
            refine wpAnyH_take (i := 17) (v := undef) rfl (by kernel_rfl) (by kernel_rfl) (by kernel_rfl) (fun _ _ _ h => h) (Or.inr ⟨by rfl, rfl⟩) (by assumption) ?_
            try simp only [List.getElem_toArray, List.getElem_cons_zero, List.getElem_cons_succ, Act.put, List.setIfInBounds_toArray, List.set_cons_zero, List.set_cons_succ]
            refine wpAnyH_take (i := 18) (v := ?_) rfl (by kernel_rfl) (by kernel_rfl) (by kernel_rfl) (fun _ _ _ h => h) (Or.inl ⟨by rfl, ?_⟩) (by assumption) ?_
            rotate_left
            · intro w hSw; (try dsimp only at hSw); go_simp; (try with_reducible rfl)
            try simp only [List.getElem_toArray, List.getElem_cons_zero, List.getElem_cons_succ, Act.put, List.setIfInBounds_toArray, List.set_cons_zero, List.set_cons_succ]
            refine wpAnyH_take (i := 19) (v := ?_) rfl (by kernel_rfl) (by kernel_rfl) (by kernel_rfl) (fun _ _ _ h => h) (Or.inl ⟨by rfl, ?_⟩) (by assumption) ?_
            rotate_left
            · intro w hSw; (try dsimp only at hSw); go_simp; (try with_reducible rfl)
            try simp only [List.getElem_toArray, List.getElem_cons_zero, List.getElem_cons_succ, Act.put, List.setIfInBounds_toArray, List.set_cons_zero, List.set_cons_succ]
            refine wpAnyH_take (i := 20) (v := undef) rfl (by kernel_rfl) (by kernel_rfl) (by kernel_rfl) (fun _ _ _ h => h) (Or.inr ⟨by rfl, rfl⟩) (by assumption) ?_
            try simp only [List.getElem_toArray, List.getElem_cons_zero, List.getElem_cons_succ, Act.put, List.setIfInBounds_toArray, List.set_cons_zero, List.set_cons_succ]
            refine wpAnyH_take (i := 21) (v := undef) rfl (by kernel_rfl) (by kernel_rfl) (by kernel_rfl) (fun _ _ _ h => h) (Or.inr ⟨by rfl, rfl⟩) (by assumption) ?_
            try simp only [List.getElem_toArray, List.getElem_cons_zero, List.getElem_cons_succ, Act.put, List.setIfInBounds_toArray, List.set_cons_zero, List.set_cons_succ]
            refine wpAnyH_take (i := 22) (v := ?_) rfl (by kernel_rfl) (by kernel_rfl) (by kernel_rfl) (fun _ _ _ h => h) (Or.inl ⟨by rfl, ?_⟩) (by assumption) ?_
            rotate_left
            · intro w hSw; (try dsimp only at hSw); go_simp; (try with_reducible rfl)
            try simp only [List.getElem_toArray, List.getElem_cons_zero, List.getElem_cons_succ, Act.put, List.setIfInBounds_toArray, List.set_cons_zero, List.set_cons_succ]
            refine wpAnyH_take (i := 23) (v := ?_) rfl (by kernel_rfl) (by kernel_rfl) (by kernel_rfl) (fun _ _ _ h => h) (Or.inl ⟨by rfl, ?_⟩) (by assumption) ?_
            rotate_left
            · intro w hSw; (try dsimp only at hSw); go_simp; (try with_reducible rfl)
            try simp only [List.getElem_toArray, List.getElem_cons_zero, List.getElem_cons_succ, Act.put, List.setIfInBounds_toArray, List.set_cons_zero, List.set_cons_succ]
            refine wpAnyH_ready (rs := [24]) (by kernel_rfl) (by simp) ?_
            refine AllReadyH.cons rfl (fun K hK => ?_) ?_
            · go_simp
              refine hK.out _ _ ?_ (fun hHeld => ?_)
              · (try dsimp only); go_keep
              clear hK K
              try simp only [List.getElem_toArray, List.getElem_cons_zero, List.getElem_cons_succ, Act.put, List.setIfInBounds_toArray, List.set_cons_zero, List.set_cons_succ]
              refine wpAnyH_ready (rs := [25]) (by kernel_rfl) (by simp) ?_
              refine AllReadyH.cons rfl (fun K hK => ?_) ?_
              · go_simp
                refine hK.out _ _ ?_ (fun hHeld => ?_)
                · (try dsimp only); go_keep
                clear hK K
                try simp only [List.getElem_toArray, List.getElem_cons_zero, List.getElem_cons_succ, Act.put, List.setIfInBounds_toArray, List.set_cons_zero, List.set_cons_succ]
                refine wpAnyH_done (by kernel_rfl) ?_ _
                go_wp2_with fail
                go_meet
                case rel => exact ⟨w3.heap.size + 1, rfl, by omega, ⟨by rw [← run_no]; exact blk_top _ _ _ _⟩, ⟨blk_alloc (blk_drewN (blk_alloc RB3.out _) _) _⟩, ⟨below_alloc (pw_below_drewN (below_alloc hbw3 _) _) _⟩, Lib.cell?_alloc_some (W := (w3.alloc _).drewN _) _ (Lib.cell?_alloc_some _ o0), Lib.cell?_alloc_some (W := (w3.alloc _).drewN _) _ (Lib.cell?_alloc_some _ o1), Lib.cell?_alloc_some (W := (w3.alloc _).drewN _) _ (Lib.cell?_alloc_some _ o2), Lib.cell?_alloc_some (W := (w3.alloc _).drewN _) _ (Lib.cell?_alloc_some _ o5), Lib.cell?_alloc_some (W := (w3.alloc _).drewN _) _ (Lib.cell?_alloc_some _ n9), Lib.cell?_alloc_some (W := (w3.alloc _).drewN _) _ (Lib.cell?_alloc_some _ f1)⟩
              exact AllReadyH.nil
            exact AllReadyH.nil
          refine AllReadyH.cons rfl (fun K hK => ?_) ?_
          · go_simp
            refine hK.out _ _ ?_ (fun hHeld => ?_)
            · (try dsimp only); go_keep
            clear hK K
            try simp only [List.getElem_toArray, List.getElem_cons_zero, List.getElem_cons_succ, Act.put, List.setIfInBounds_toArray, List.set_cons_zero, List.set_cons_succ]
            refine wpAnyH_ready (rs := [10]) (by kernel_rfl) (by simp) ?_
            refine AllReadyH.cons rfl (fun K hK => ?_) ?_
            · go_simp
              (first | ((with_reducible refine (set3_new a0_0 a0_1 a0_2 _).mono ?_); rintro e w' ⟨rfl, q5, rfl⟩) | ((with_reducible refine (set3_new1 a0_0 a0_1 a0_2 _).mono ?_); rintro e w' ⟨rfl, q5, rfl⟩) | ((with_reducible refine (set3_new2 a0_0 a0_1 a0_2 _ _).mono ?_); rintro e w' ⟨rfl, q5, rfl⟩) | ((with_reducible refine (set3_new4 a0_0 a0_1 a0_2 _ _).mono ?_); rintro e w' ⟨rfl, q5, rfl⟩) | ((with_reducible refine (set3_new5 a0_0 a0_1 a0_2 _ _).mono ?_); rintro e w' ⟨rfl, q5, rfl⟩) | ((with_reducible refine (set3_new6 a0_0 a0_1 a0_2 _ _).mono ?_); rintro e w' ⟨rfl, q5, rfl⟩))
              try go_wp2_with fail
              refine hK.out _ _ ?_ (fun hHeld => ?_)
              · (try dsimp only); go_keep
              clear hK K
              try simp only [List.getElem_toArray, List.getElem_cons_zero, List.getElem_cons_succ, Act.put, List.setIfInBounds_toArray, List.set_cons_zero, List.set_cons_succ]
              refine wpAnyH_take (i := 11) (v := ?_) rfl (by kernel_rfl) (by kernel_rfl) (by kernel_rfl) (fun _ _ _ h => h) (Or.inl ⟨by rfl, ?_⟩) (by assumption) ?_
              rotate_left
              · intro w hSw; (try dsimp only at hSw); go_simp; (try with_reducible rfl)
              try simp only [List.getElem_toArray, List.getElem_cons_zero, List.getElem_cons_succ, Act.put, List.setIfInBounds_toArray, List.set_cons_zero, List.set_cons_succ]
              refine wpAnyH_take (i := 12) (v := ?_) rfl (by kernel_rfl) (by kernel_rfl) (by kernel_rfl) (fun _ _ _ h => h) (Or.inl ⟨by rfl, ?_⟩) (by assumption) ?_
              rotate_left
              · intro w hSw; (try dsimp only at hSw); go_simp; (try with_reducible rfl)
              try simp only [List.getElem_toArray, List.getElem_cons_zero, List.getElem_cons_succ, Act.put, List.setIfInBounds_toArray, List.set_cons_zero, List.set_cons_succ]
              refine wpAnyH_take (i := 15) (v := ?_) rfl (by kernel_rfl) (by kernel_rfl) (by kernel_rfl) (fun _ _ _ h => h) (Or.inl ⟨by rfl, ?_⟩) (by assumption) ?_
              rotate_left
              · intro w hSw; (try dsimp only at hSw); go_simp; (try with_reducible rfl)
              try simp only [List.getElem_toArray, List.getElem_cons_zero, List.getElem_cons_succ, Act.put, List.setIfInBounds_toArray, List.set_cons_zero, List.set_cons_succ]
              refine wpAnyH_take (i := 16) (v := undef) rfl (by kernel_rfl) (by kernel_rfl) (by kernel_rfl) (fun _ _ _ h => h) (Or.inr ⟨by rfl, rfl⟩) (by assumption) ?_
              try simp only [List.getElem_toArray, List.getElem_cons_zero, List.getElem_cons_succ, Act.put, List.setIfInBounds_toArray, List.set_cons_zero, List.set_cons_succ]
              refine wpAnyH_take (i := 17) (v := undef) rfl (by kernel_rfl) (by kernel_rfl) (by kernel_rfl) (fun _ _ _ h => h) (Or.inr ⟨by rfl, rfl⟩) (by assumption) ?_
              try simp only [List.getElem_toArray, List.getElem_cons_zero, List.getElem_cons_succ, Act.put, List.setIfInBounds_toArray, List.set_cons_zero, List.set_cons_succ]
              refine wpAnyH_take (i := 18) (v := ?_) rfl (by kernel_rfl) (by kernel_rfl) (by kernel_rfl) (fun _ _ _ h => h) (Or.inl ⟨by rfl, ?_⟩) (by assumption) ?_
              rotate_left
              · intro w hSw; (try dsimp only at hSw); go_simp; (try with_reducible rfl)
              try simp only [List.getElem_toArray, List.getElem_cons_zero, List.getElem_cons_succ, Act.put, List.setIfInBounds_toArray, List.set_cons_zero, List.set_cons_succ]
              refine wpAnyH_take (i := 19) (v := ?_) rfl (by kernel_rfl) (by kernel_rfl) (by kernel_rfl) (fun _ _ _ h => h) (Or.inl ⟨by rfl, ?_⟩) (by assumption) ?_
              rotate_left
              · intro w hSw; (try dsimp only at hSw); go_simp; (try with_reducible rfl)
              try simp only [List.getElem_toArray, List.getElem_cons_zero, List.getElem_cons_succ, Act.put, List.setIfInBounds_toArray, List.set_cons_zero, List.set_cons_succ]
              refine wpAnyH_take (i := 20) (v := undef) rfl (by kernel_rfl) (by kernel_rfl) (by kernel_rfl) (fun _ _ _ h => h) (Or.inr ⟨by rfl, rfl⟩) (by assumption) ?_
              try simp only [List.getElem_toArray, List.getElem_cons_zero, List.getElem_cons_succ, Act.put, List.setIfInBounds_toArray, List.set_cons_zero, List.set_cons_succ]
              refine wpAnyH_take (i := 21) (v := undef) rfl (by kernel_rfl) (by kernel_rfl) (by kernel_rfl) (fun _ _ _ h => h) (Or.inr ⟨by rfl, rfl⟩) (by assumption) ?_
              try simp only [List.getElem_toArray, List.getElem_cons_zero, List.getElem_cons_succ, Act.put, List.setIfInBounds_toArray, List.set_cons_zero, List.set_cons_succ]
              refine wpAnyH_take (i := 22) (v := ?_) rfl (by kernel_rfl) (by kernel_rfl) (by kernel_rfl) (fun _ _ _ h => h) (Or.inl ⟨by rfl, ?_⟩) (by assumption) ?_
              rotate_left
              · intro w hSw; (try dsimp only at hSw); go_simp; (try with_reducible rfl)
              try simp only [List.getElem_toArray, List.getElem_cons_zero, List.getElem_cons_succ, Act.put, List.setIfInBounds_toArray, List.set_cons_zero, List.set_cons_succ]
              refine wpAnyH_take (i := 23) (v := ?_) rfl (by kernel_rfl) (by kernel_rfl) (by kernel_rfl) (fun _ _ _ h => h) (Or.inl ⟨by rfl, ?_⟩) (by assumption) ?_
              rotate_left
              · intro w hSw; (try dsimp only at hSw); go_simp; (try with_reducible rfl)
              try simp only [List.getElem_toArray, List.getElem_cons_zero, List.getElem_cons_succ, Act.put, List.setIfInBounds_toArray, List.set_cons_zero, List.set_cons_succ]
              refine wpAnyH_ready (rs := [25]) (by kernel_rfl) (by simp) ?_
              refine AllReadyH.cons rfl (fun K hK => ?_) ?_
              · go_simp
                refine hK.out _ _ ?_ (fun hHeld => ?_)
                · (try dsimp only); go_keep
                clear hK K
                try simp only [List.getElem_toArray, List.getElem_cons_zero, List.getElem_cons_succ, Act.put, List.setIfInBounds_toArray, List.set_cons_zero, List.set_cons_succ]
                refine wpAnyH_done (by kernel_rfl) ?_ _
                go_wp2_with fail
                go_meet
                case rel => exact ⟨w3.heap.size + 1, rfl, by omega, ⟨by rw [← run_no]; exact blk_put3 (blk_drewN (blk_top2 _ _ _) _)⟩, ⟨blk_far3 (blk_drewN (blk_alloc (blk_alloc RB3.out _) _) _) (by omega)⟩, ⟨below_set3 (pw_below_drewN (below_alloc (below_alloc hbw3 _) _) _) (by omega)⟩, cell_far3 (Lib.cell?_alloc_some (W := w3.alloc _) _ (Lib.cell?_alloc_some _ o0)) (by show w3.heap.size + 1 ≠ _; dsimp only; omega), cell_far3 (Lib.cell?_alloc_some (W := w3.alloc _) _ (Lib.cell?_alloc_some _ o1)) (by show w3.heap.size + 1 ≠ _; dsimp only; omega), cell_far3 (Lib.cell?_alloc_some (W := w3.alloc _) _ (Lib.cell?_alloc_some _ o2)) (by show w3.heap.size + 1 ≠ _; dsimp only; omega), cell_far3 (Lib.cell?_alloc_some (W := w3.alloc _) _ (Lib.cell?_alloc_some _ o5)) (by show w3.heap.size + 1 ≠ _; dsimp only; omega), cell_far3 (Lib.cell?_alloc_some (W := w3.alloc _) _ (Lib.cell?_alloc_some _ n9)) (by show w3.heap.size + 1 ≠ _; dsimp only; omega), cell_far3 (Lib.cell?_alloc_some (W := w3.alloc _) _ (Lib.cell?_alloc_some _ f1)) (by show w3.heap.size + 1 ≠ _; dsimp only; omega)⟩
              exact AllReadyH.nil
            exact AllReadyH.nil
          exact AllReadyH.nil
        refine AllReadyH.cons rfl (fun K hK => ?_) ?_
        · go_simp
          refine hK.out _ _ ?_ (fun hHeld => ?_)
          · (try dsimp only); go_keep
          clear hK K
          try simp only [List.getElem_toArray, List.getElem_cons_zero, List.getElem_cons_succ, Act.put, List.setIfInBounds_toArray, List.set_cons_zero, List.set_cons_succ]
          refine wpAnyH_ready (rs := [9]) (by kernel_rfl) (by simp) ?_
          refine AllReadyH.cons rfl (fun K hK => ?_) ?_
          · go_simp
            refine hK.out _ _ ?_ (fun hHeld => ?_)
            · (try dsimp only); go_keep
            clear hK K
            try simp only [List.getElem_toArray, List.getElem_cons_zero, List.getElem_cons_succ, Act.put, List.setIfInBounds_toArray, List.set_cons_zero, List.set_cons_succ]
            refine wpAnyH_ready (rs := [10]) (by kernel_rfl) (by simp) ?_
            refine AllReadyH.cons rfl (fun K hK => ?_) ?_
            · go_simp
              (first | ((with_reducible refine (set3_new a0_0 a0_1 a0_2 _).mono ?_); rintro e w' ⟨rfl, q5, rfl⟩) | ((with_reducible refine (set3_new1 a0_0 a0_1 a0_2 _).mono ?_); rintro e w' ⟨rfl, q5, rfl⟩) | ((with_reducible refine (set3_new2 a0_0 a0_1 a0_2 _ _).mono ?_); rintro e w' ⟨rfl, q5, rfl⟩) | ((with_reducible refine (set3_new4 a0_0 a0_1 a0_2 _ _).mono ?_); rintro e w' ⟨rfl, q5, rfl⟩) | ((with_reducible refine (set3_new5 a0_0 a0_1 a0_2 _ _).mono ?_); rintro e w' ⟨rfl, q5, rfl⟩) | ((with_reducible refine (set3_new6 a0_0 a0_1 a0_2 _ _).mono ?_); rintro e w' ⟨rfl, q5, rfl⟩))
              try go_wp2_with fail
              refine hK.out _ _ ?_ (fun hHeld => ?_)
              · (try dsimp only); go_keep
              clear hK K
              try simp only [List.getElem_toArray, List.getElem_cons_zero, List.getElem_cons_succ, Act.put, List.setIfInBounds_toArray, List.set_cons_zero, List.set_cons_succ]
              refine wpAnyH_take (i := 11) (v := ?_) rfl (by kernel_rfl) (by kernel_rfl) (by kernel_rfl) (fun _ _ _ h => h) (Or.inl ⟨by rfl, ?_⟩) (by assumption) ?_
              rotate_left
              · intro w hSw; (try dsimp only at hSw); go_simp; (try with_reducible rfl)
              try simp only [List.getElem_toArray, List.getElem_cons_zero, List.getElem_cons_succ, Act.put, List.setIfInBounds_toArray, List.set_cons_zero, List.set_cons_succ]
              refine wpAnyH_take (i := 12) (v := ?_) rfl (by kernel_rfl) (by kernel_rfl) (by kernel_rfl) (fun _ _ _ h => h) (Or.inl ⟨by rfl, ?_⟩) (by assumption) ?_
              rotate_left
              · intro w hSw; (try dsimp only at hSw); go_simp; (try with_reducible rfl)
              try simp only [List.getElem_toArray, List.getElem_cons_zero, List.getElem_cons_succ, Act.put, List.setIfInBounds_toArray, List.set_cons_zero, List.set_cons_succ]
              refine wpAnyH_take (i := 15) (v := ?_) rfl (by kernel_rfl) (by kernel_rfl) (by kernel_rfl) (fun _ _ _ h => h) (Or.inl ⟨by rfl, ?_⟩) (by assumption) ?_
              rotate_left
              · intro w hSw; (try dsimp only at hSw); go_simp; (try with_reducible rfl)
              try simp only [List.getElem_toArray, List.getElem_cons_zero, List.getElem_cons_succ, Act.put, List.setIfInBounds_toArray, List.set_cons_zero, List.set_cons_succ]
              refine wpAnyH_take (i := 16) (v := undef) rfl (by kernel_rfl) (by kernel_rfl) (by kernel_rfl) (fun _ _ _ h => h) (Or.inr ⟨by rfl, rfl⟩) (by assumption) ?_
              try simp only [List.getElem_toArray, List.getElem_cons_zero, List.getElem_cons_succ, Act.put, List.setIfInBounds_toArray, List.set_cons_zero, List.set_cons_succ]
              refine wpAnyH_take (i := 17) (v := undef) rfl (by kernel_rfl) (by kernel_rfl) (by kernel_rfl) (fun _ _ _ h => h) (Or.inr ⟨by rfl, rfl⟩) (by assumption) ?_
              try simp only [List.getElem_toArray, List.getElem_cons_zero, List.getElem_cons_succ, Act.put, List.setIfInBounds_toArray, List.set_cons_zero, List.set_cons_succ]
              refine wpAnyH_take (i := 18) (v := ?_) rfl (by kernel_rfl) (by kernel_rfl) (by kernel_rfl) (fun _ _ _ h => h) (Or.inl ⟨by rfl, ?_⟩) (by assumption) ?_
              rotate_left
              · intro w hSw; (try dsimp only at hSw); go_simp; (try with_reducible rfl)
              try simp only [List.getElem_toArray, List.getElem_cons_zero, List.getElem_cons_succ, Act.put, List.setIfInBounds_toArray, List.set_cons_zero, List.set_cons_succ]
              refine wpAnyH_take (i := 19) (v := ?_) rfl (by kernel_rfl) (by kernel_rfl) (by kernel_rfl) (fun _ _ _ h => h) (Or.inl ⟨by rfl, ?_⟩) (by assumption) ?_
              rotate_left
              · intro w hSw; (try dsimp only at hSw); go_simp; (try with_reducible rfl)
              try simp only [List.getElem_toArray, List.getElem_cons_zero, List.getElem_cons_succ, Act.put, List.setIfInBounds_toArray, List.set_cons_zero, List.set_cons_succ]
              refine wpAnyH_take (i := 20) (v := undef) rfl (by kernel_rfl) (by kernel_rfl) (by kernel_rfl) (fun _ _ _ h => h) (Or.inr ⟨by rfl, rfl⟩) (by assumption) ?_
              try simp only [List.getElem_toArray, List.getElem_cons_zero, List.getElem_cons_succ, Act.put, List.setIfInBounds_toArray, List.set_cons_zero, List.set_cons_succ]
              refine wpAnyH_take (i := 21) (v := undef) rfl (by kernel_rfl) (by kernel_rfl) (by kernel_rfl) (fun _ _ _ h => h) (Or.inr ⟨by rfl, rfl⟩) (by assumption) ?_
              try simp only [List.getElem_toArray, List.getElem_cons_zero, List.getElem_cons_succ, Act.put, List.setIfInBounds_toArray, List.set_cons_zero, List.set_cons_succ]
              refine wpAnyH_take (i := 22) (v := ?_) rfl (by kernel_rfl) (by kernel_rfl) (by kernel_rfl) (fun _ _ _ h => h) (Or.inl ⟨by rfl, ?_⟩) (by assumption) ?_
              rotate_left
              · intro w hSw; (try dsimp only at hSw); go_simp; (try with_reducible rfl)
              try simp only [List.getElem_toArray, List.getElem_cons_zero, List.getElem_cons_succ, Act.put, List.setIfInBounds_toArray, List.set_cons_zero, List.set_cons_succ]
              refine wpAnyH_take (i := 23) (v := ?_) rfl (by kernel_rfl) (by kernel_rfl) (by kernel_rfl) (fun _ _ _ h => h) (Or.inl ⟨by rfl, ?_⟩) (by assumption) ?_
              rotate_left
              · intro w hSw; (try dsimp only at hSw); go_simp; (try with_reducible rfl)
              try simp only [List.getElem_toArray, List.getElem_cons_zero, List.getElem_cons_succ, Act.put, List.setIfInBounds_toArray, List.set_cons_zero, List.set_cons_succ]
              refine wpAnyH_ready (rs := [25]) (by kernel_rfl) (by simp) ?_
              refine AllReadyH.cons rfl (fun K hK => ?_) ?_
              · go_simp
                refine hK.out _ _ ?_ (fun hHeld => ?_)
                · (try dsimp only); go_keep
                clear hK K
                try simp only [List.getElem_toArray, List.getElem_cons_zero, List.getElem_cons_succ, Act.put, List.setIfInBounds_toArray, List.set_cons_zero, List.set_cons_succ]
                refine wpAnyH_done (by kernel_rfl) ?_ _
                go_wp2_with fail
                go_meet
                case rel => exact ⟨w3.heap.size, rfl, by omega, ⟨by rw [← run_no]; exact blk_put3 (blk_drewN (blk_alloc (blk_new _ _) _) _)⟩, ⟨blk_far3 (blk_drewN (blk_alloc (blk_alloc RB3.out _) _) _) (by omega)⟩, ⟨below_set3 (pw_below_drewN (below_alloc (below_alloc hbw3 _) _) _) (by omega)⟩, cell_far3 (Lib.cell?_alloc_some (W := w3.alloc _) _ (Lib.cell?_alloc_some _ o0)) (by show w3.heap.size ≠ _; dsimp only; omega), cell_far3 (Lib.cell?_alloc_some (W := w3.alloc _) _ (Lib.cell?_alloc_some _ o1)) (by show w3.heap.size ≠ _; dsimp only; omega), cell_far3 (Lib.cell?_alloc_some (W := w3.alloc _) _ (Lib.cell?_alloc_some _ o2)) (by show w3.heap.size ≠ _; dsimp only; omega), cell_far3 (Lib.cell?_alloc_some (W := w3.alloc _) _ (Lib.cell?_alloc_some _ o5)) (by show w3.heap.size ≠ _; dsimp only; omega), cell_far3 (Lib.cell?_alloc_some (W := w3.alloc _) _ (Lib.cell?_alloc_some _ n9)) (by show w3.heap.size ≠ _; dsimp only; omega), cell_far3 (Lib.cell?_alloc_some (W := w3.alloc _) _ (Lib.cell?_alloc_some _ f1)) (by show w3.heap.size ≠ _; dsimp only; omega)⟩
              exact AllReadyH.nil
            exact AllReadyH.nil
          exact AllReadyH.nil
        exact AllReadyH.nil
      | false =>
        cases a0_4 with
        | true =>
          refine wp_region_held_drew (S := (fun w' => w'.cell? ⟨w.heap.size, 0, none⟩ = some (.bool a0_0) ∧ w'.cell? ⟨w.heap.size, 1, none⟩ = some (.bool a0_1) ∧ w'.cell? ⟨w.heap.size, 2, none⟩ = some (.bool a0_2) ∧ w'.cell? ⟨w.heap.size, 4, none⟩ = some (.bool true) ∧ w'.cell? ⟨w.heap.size, 5, none⟩ = some (.bool a0_5) ∧ w'.cell? ⟨w.heap.size + 1, 8, none⟩ = some (.bool a1_8) ∧ w'.cell? ⟨w.heap.size + 1, 9, none⟩ = some (.bool a1_9) ∧ w'.cell? ⟨w.heap.size + 1 + 1, 0, none⟩ = some (.bool false) ∧ w'.cell? ⟨w.heap.size + 1 + 1, 1, none⟩ = some (.bool a2_1) ∧ w'.cell? ⟨w.heap.size + 1 + 1, 2, none⟩ = some (.bool false))) (by kernel_rfl) ?_ (fun hHeld => ?_)
          · (try dsimp only); go_keep
          refine wpAnyH_take (i := 0) (v := ?_) rfl (by kernel_rfl) (by kernel_rfl) (by kernel_rfl) (fun _ _ _ h => h) (Or.inl ⟨by rfl, ?_⟩) (by assumption) ?_
          rotate_left
          · intro w hSw; (try dsimp only at hSw); go_simp; (try with_reducible rfl)
          try simp only [List.getElem_toArray, List.getElem_cons_zero, List.getElem_cons_succ, Act.put, List.setIfInBounds_toArray, List.set_cons_zero, List.set_cons_succ]
          refine wpAnyH_take (i := 1) (v := ?_) rfl (by kernel_rfl) (by kernel_rfl) (by kernel_rfl) (fun _ _ _ h => h) (Or.inl ⟨by rfl, ?_⟩) (by assumption) ?_
          rotate_left
          · intro w hSw; (try dsimp only at hSw); go_simp; (try with_reducible rfl)
          try simp only [List.getElem_toArray, List.getElem_cons_zero, List.getElem_cons_succ, Act.put, List.setIfInBounds_toArray, List.set_cons_zero, List.set_cons_succ]
          refine wpAnyH_take (i := 2) (v := ?_) rfl (by kernel_rfl) (by kernel_rfl) (by kernel_rfl) (fun _ _ _ h => h) (Or.inl ⟨by rfl, ?_⟩) (by assumption) ?_
          rotate_left
          · intro w hSw; (try dsimp only at hSw); go_simp; (try with_reducible rfl)
          try simp only [List.getElem_toArray, List.getElem_cons_zero, List.getElem_cons_succ, Act.put, List.setIfInBounds_toArray, List.set_cons_zero, List.set_cons_succ]
          refine wpAnyH_take (i := 3) (v := ?_) rfl (by kernel_rfl) (by kernel_rfl) (by kernel_rfl) (fun _ _ _ h => h) (Or.inl ⟨by rfl, ?_⟩) (by assumption) ?_
          rotate_left
          · intro w hSw; (try dsimp only at hSw); go_simp; (try with_reducible rfl)
          try simp only [List.getElem_toArray, List.getElem_cons_zero, List.getElem_cons_succ, Act.put, List.setIfInBounds_toArray, List.set_cons_zero, List.set_cons_succ]
          refine wpAnyH_take (i := 4) (v := ?_) rfl (by kernel_rfl) (by kernel_rfl) (by kernel_rfl) (fun _ _ _ h => h) (Or.inl ⟨by rfl, ?_⟩) (by assumption) ?_
          rotate_left
          · intro w hSw; (try dsimp only at hSw); go_simp; (try with_reducible rfl)
          try simp only [List.getElem_toArray, List.getElem_cons_zero, List.getElem_cons_succ, Act.put, List.setIfInBounds_toArray, List.set_cons_zero, List.set_cons_succ]
          refine wpAnyH_take (i := 5) (v := ?_) rfl (by kernel_rfl) (by kernel_rfl) (by kernel_rfl) (fun _ _ _ h => h) (Or.inl ⟨by rfl, ?_⟩) (by assumption) ?_
          rotate_left
          · intro w hSw; (try dsimp only at hSw); go_simp; (try with_reducible rfl)
          try simp only [List.getElem_toArray, List.getElem_cons_zero, List.getElem_cons_succ, Act.put, List.setIfInBounds_toArray, List.set_cons_zero, List.set_cons_succ]
          refine wpAnyH_take (i := 6) (v := ?_) rfl (by kernel_rfl) (by kernel_rfl) (by kernel_rfl) (fun _ _ _ h => h) (Or.inl ⟨by rfl, ?_⟩) (by assumption) ?_
          rotate_left
          · intro w hSw; (try dsimp only at hSw); go_simp; (try with_reducible rfl)
          try simp only [List.getElem_toArray, List.getElem_cons_zero, List.getElem_cons_succ, Act.put, List.setIfInBounds_toArray, List.set_cons_zero, List.set_cons_succ]
          refine wpAnyH_take (i := 7) (v := ?_) rfl (by kernel_rfl) (by kernel_rfl) (by kernel_rfl) (fun _ _ _ h => h) (Or.inl ⟨by rfl, ?_⟩) (by assumption) ?_
          rotate_left
          · intro w hSw; (try dsimp only at hSw); go_simp; (try with_reducible rfl)
          try simp only [List.getElem_toArray, List.getElem_cons_zero, List.getElem_cons_succ, Act.put, List.setIfInBounds_toArray, List.set_cons_zero, List.set_cons_succ]
          refine wpAnyH_take (i := 8) (v := ?_) rfl (by kernel_rfl) (by kernel_rfl) (by kernel_rfl) (fun _ _ _ h => h) (Or.inl ⟨by rfl, ?_⟩) (by assumption) ?_
          rotate_left
          · intro w hSw; (try dsimp only at hSw); go_simp; (try with_reducible rfl)
          try simp only [List.getElem_toArray, List.getElem_cons_zero, List.getElem_cons_succ, Act.put, List.setIfInBounds_toArray, List.set_cons_zero, List.set_cons_succ]
          refine wpAnyH_take (i := 13) (v := ?_) rfl (by kernel_rfl) (by kernel_rfl) (by kernel_rfl) (fun _ _ _ h => h) (Or.inl ⟨by rfl, ?_⟩) (by assumption) ?_
          rotate_left
          · intro w hSw; (try dsimp only at hSw); go_simp; (try with_reducible rfl)
          try simp only [List.getElem_toArray, List.getElem_cons_zero, List.getElem_cons_succ, Act.put, List.setIfInBounds_toArray, List.set_cons_zero, List.set_cons_succ]
          refine wpAnyH_take (i := 14) (v := ?_) rfl (by kernel_rfl) (by kernel_rfl) (by kernel_rfl) (fun _ _ _ h => h) (Or.inl ⟨by rfl, ?_⟩) (by assumption) ?_
          rotate_left
          · intro w hSw; (try dsimp only at hSw); go_simp; (try with_reducible rfl)
          try simp only [List.getElem_toArray, List.getElem_cons_zero, List.getElem_cons_succ, Act.put, List.setIfInBounds_toArray, List.set_cons_zero, List.set_cons_succ]
          refine wpAnyH_ready (rs := [9, 24]) (by kernel_rfl) (by simp) ?_
          refine AllReadyH.cons rfl (fun K hK => ?_) ?_
          · go_simp
            refine hK.out _ _ ?_ (fun hHeld => ?_)
            · (try dsimp only); go_keep
            clear hK K
            try simp only [List.getElem_toArray, List.getElem_cons_zero, List.getElem_cons_succ, Act.put, List.setIfInBounds_toArray, List.set_cons_zero, List.set_cons_succ]
            refine wpAnyH_ready (rs := [10, 24]) (by kernel_rfl) (by simp) ?_
            refine AllReadyH.cons rfl (fun K hK => ?_) ?_
            · go_simp
              (first | ((with_reducible refine (set3_new a0_0 a0_1 a0_2 _).mono ?_); rintro e w' ⟨rfl, q5, rfl⟩) | ((with_reducible refine (set3_new1 a0_0 a0_1 a0_2 _).mono ?_); rintro e w' ⟨rfl, q5, rfl⟩) | ((with_reducible refine (set3_new2 a0_0 a0_1 a0_2 _ _).mono ?_); rintro e w' ⟨rfl, q5, rfl⟩) | ((with_reducible refine (set3_new4 a0_0 a0_1 a0_2 _ _).mono ?_); rintro e w' ⟨rfl, q5, rfl⟩) | ((with_reducible refine (set3_new5 a0_0 a0_1 a0_2 _ _).mono ?_); rintro e w' ⟨rfl, q5, rfl⟩) | ((with_reducible refine (set3_new6 a0_0 a0_1 a0_2 _ _).mono ?_); rintro e w' ⟨rfl, q5, rfl⟩))
              try go_wp2_with fail
              refine hK.out _ _ ?_ (fun hHeld => ?_)
              · (try dsimp only); go_keep
              clear hK K
              try simp only [List.getElem_toArray, List.getElem_cons_zero, List.getElem_cons_succ, Act.put, List.setIfInBounds_toArray, List.set_cons_zero, List.set_cons_succ]
              refine wpAnyH_take (i := 11) (v := ?_) rfl (by kernel_rfl) (by kernel_rfl) (by kernel_rfl) (fun _ _ _ h => h) (Or.inl ⟨by rfl, ?_⟩) (by assumption) ?_
              rotate_left
              · intro w hSw; (try dsimp only at hSw); go_simp; (try with_reducible rfl)
              try simp only [List.getElem_toArray, List.getElem_cons_zero, List.getElem_cons_succ, Act.put, List.setIfInBounds_toArray, List.set_cons_zero, List.set_cons_succ]
              refine wpAnyH_take (i := 12) (v := ?_) rfl (by kernel_rfl) (by kernel_rfl) (by kernel_rfl) (fun _ _ _ h => h) (Or.inl ⟨by rfl, ?_⟩) (by assumption) ?_
              rotate_left
              · intro w hSw; (try dsimp only at hSw); go_simp; (try with_reducible rfl)
              try simp only [List.getElem_toArray, List.getElem_cons_zero, List.getElem_cons_succ, Act.put, List.setIfInBounds_toArray, List.set_cons_zero, List.set_cons_succ]
              refine wpAnyH_take (i := 15) (v := ?_) rfl (by kernel_rfl) (by kernel_rfl) (by kernel_rfl) (fun _ _ _ h => h) (Or.inl ⟨by rfl, ?_⟩) (by assumption) ?_
              rotate_left
              · intro w hSw; (try dsimp only at hSw); go_simp; (try with_reducible rfl)
              try simp only [List.getElem_toArray, List.getElem_cons_zero, List.getElem_cons_succ, Act.put, List.setIfInBounds_toArray, List.set_cons_zero, List.set_cons_succ]
              refine wpAnyH_take (i := 16) (v := ?_) rfl (by kernel_rfl) (by kernel_rfl) (by kernel_rfl) (fun _ _ _ h => h) (Or.inl ⟨by rfl, ?_⟩) (by assumption) ?_
              rotate_left
              · intro w hSw; (try dsimp only at hSw); go_simp; (try with_reducible rfl)
              try simp only [List.getElem_toArray, List.getElem_cons_zero, List.getElem_cons_succ, Act.put, List.setIfInBounds_toArray, List.set_cons_zero, List.set_cons_succ]
              refine wpAnyH_take (i := 17) (v := ?_) rfl (by kernel_rfl) (by kernel_rfl) (by kernel_rfl) (fun _ _ _ h => h) (Or.inl ⟨by rfl, ?_⟩) (by assumption) ?_
              rotate_left
              · intro w hSw; (try dsimp only at hSw); go_simp; (try with_reducible rfl)
              try simp only [List.getElem_toArray, List.getElem_cons_zero, List.getElem_cons_succ, Act.put, List.setIfInBounds_toArray, List.set_cons_zero, List.set_cons_succ]
              refine wpAnyH_take (i := 18) (v := ?_) rfl (by kernel_rfl) (by kernel_rfl) (by kernel_rfl) (fun _ _ _ h => h) (Or.inl ⟨by rfl, ?_⟩) (by assumption) ?_
              rotate_left
              · intro w hSw; (try dsimp only at hSw); go_simp; (try with_reducible rfl)
              try simp only [List.getElem_toArray, List.getElem_cons_zero, List.getElem_cons_succ, Act.put, List.setIfInBounds_toArray, List.set_cons_zero, List.set_cons_succ]
              refine wpAnyH_take (i := 19) (v := ?_) rfl (by kernel_rfl) (by kernel_rfl) (by kernel_rfl) (fun _ _ _ h => h) (Or.inl ⟨by rfl, ?_⟩) (by assumption) ?_
              rotate_left
              · intro w hSw; (try dsimp only at hSw); go_simp; (try with_reducible rfl)
              try simp only [List.getElem_toArray, List.getElem_cons_zero, List.getElem_cons_succ, Act.put, List.setIfInBounds_toArray, List.set_cons_zero, List.set_cons_succ]
              refine wpAnyH_take (i := 20) (v := undef) rfl (by kernel_rfl) (by kernel_rfl) (by kernel_rfl) (fun _ _ _ h => h) (Or.inr ⟨by rfl, rfl⟩) (by assumption) ?_
              try simp only [List.getElem_toArray, List.getElem_cons_zero, List.getElem_cons_succ, Act.put, List.setIfInBounds_toArray, List.set_cons_zero, List.set_cons_succ]
              refine wpAnyH_take (i := 21) (v := undef) rfl (by kernel_rfl) (by kernel_rfl) (by kernel_rfl) (fun _ _ _ h => h) (Or.inr ⟨by rfl, rfl⟩) (by assumption) ?_
              try simp only [List.getElem_toArray, List.getElem_cons_zero, List.getElem_cons_succ, Act.put, List.setIfInBounds_toArray, List.set_cons_zero, List.set_cons_succ]
              refine wpAnyH_take (i := 22) (v := ?_) rfl (by kernel_rfl) (by kernel_rfl) (by kernel_rfl) (fun _ _ _ h => h) (Or.inl ⟨by rfl, ?_⟩) (by assumption) ?_
              rotate_left
              · intro w hSw; (try dsimp only at hSw); go_simp; (try with_reducible rfl)
              try simp only [List.getElem_toArray, List.getElem_cons_zero, List.getElem_cons_succ, Act.put, List.setIfInBounds_toArray, List.set_cons_zero, List.set_cons_succ]
              refine wpAnyH_take (i := 23) (v := ?_) rfl (by kernel_rfl) (by kernel_rfl) (by kernel_rfl) (fun _ _ _ h => h) (Or.inl ⟨by rfl, ?_⟩) (by assumption) ?_
              rotate_left
              · intro w hSw; (try dsimp only at hSw); go_simp; (try with_reducible rfl)
              try simp only [List.getElem_toArray, List.getElem_cons_zero, List.getElem_cons_succ, Act.put, List.setIfInBounds_toArray, List.set_cons_zero, List.set_cons_succ]
              refine wpAnyH_ready (rs := [24]) (by kernel_rfl) (by simp) ?_
              refine AllReadyH.cons rfl (fun K hK => ?_) ?_
              · go_simp
                refine hK.out _ _ ?_ (fun hHeld => ?_)
                · (try dsimp only); go_keep
                clear hK K
                try simp only [List.getElem_toArray, List.getElem_cons_zero, List.getElem_cons_succ, Act.put, List.setIfInBounds_toArray, List.set_cons_zero, List.set_cons_succ]
                refine wpAnyH_ready (rs := [25]) (by kernel_rfl) (by simp) ?_
                refine AllReadyH.cons rfl (fun K hK => ?_) ?_
                · go_simp
                  refine hK.out _ _ ?_ (fun hHeld => ?_)
                  · (try dsimp only); go_keep
                  clear hK K
                  try simp only [List.getElem_toArray, List.getElem_cons_zero, List.getElem_cons_succ, Act.put, List.setIfInBounds_toArray, List.set_cons_zero, List.set_cons_succ]
                  refine wpAnyH_done (by kernel_rfl) ?_ _
                  go_wp2_with fail
                  go_meet
                  case rel => exact ⟨w3.heap.size + 1, rfl, by omega, ⟨by rw [← run_no]; exact blk_top _ _ _ _⟩, ⟨blk_alloc (blk_drewN (blk_alloc RB3.out _) _) _⟩, ⟨below_alloc (pw_below_drewN (below_alloc hbw3 _) _) _⟩, Lib.cell?_alloc_some (W := (w3.alloc _).drewN _) _ (Lib.cell?_alloc_some _ o0), Lib.cell?_alloc_some (W := (w3.alloc _).drewN _) _ (Lib.cell?_alloc_some _ o1), Lib.cell?_alloc_some (W := (w3.alloc _).drewN _) _ (Lib.cell?_alloc_some _ o2), Lib.cell?_alloc_some (W := (w3.alloc _).drewN _) _ (Lib.cell?_alloc_some _ o5), Lib.cell?_alloc_some (W := (w3.alloc _).drewN _) _ (Lib.cell?_alloc_some _ n9), Lib.cell?_alloc_some (W := (w3.alloc _).drewN _) _ (Lib.cell?_alloc_some _ f1)⟩
                exact AllReadyH.nil
              exact AllReadyH.nil
            refine AllReadyH.cons rfl (fun K hK => ?_) ?_
            · go_simp
              refine hK.out _ _ ?_ (fun hHeld => ?_)
              · (try dsimp only); go_keep
              clear hK K
              try simp only [List.getElem_toArray, List.getElem_cons_zero, List.getElem_cons_succ, Act.put, List.setIfInBounds_toArray, List.set_cons_zero, List.set_cons_succ]
              refine wpAnyH_ready (rs := [10]) (by kernel_rfl) (by simp) ?_
              refine AllReadyH.cons rfl (fun K hK => ?_) ?_
              · go_simp
                (first | ((with_reducible refine (set3_new a0_0 a0_1 a0_2 _).mono ?_); rintro e w' ⟨rfl, q5, rfl⟩) | ((with_reducible refine (set3_new1 a0_0 a0_1 a0_2 _).mono ?_); rintro e w' ⟨rfl, q5, rfl⟩) | ((with_reducible refine (set3_new2 a0_0 a0_1 a0_2 _ _).mono ?_); rintro e w' ⟨rfl, q5, rfl⟩) | ((with_reducible refine (set3_new4 a0_0 a0_1 a0_2 _ _).mono ?_); rintro e w' ⟨rfl, q5, rfl⟩) | ((with_reducible refine (set3_new5 a0_0 a0_1 a0_2 _ _).mono ?_); rintro e w' ⟨rfl, q5, rfl⟩) | ((with_reducible refine (set3_new6 a0_0 a0_1 a0_2 _ _).mono ?_); rintro e w' ⟨rfl, q5, rfl⟩))
                try go_wp2_with fail
                refine hK.out _ _ ?_ (fun hHeld => ?_)
                · (try dsimp only); go_keep
                clear hK K
                try simp only [List.getElem_toArray, List.getElem_cons_zero, List.getElem_cons_succ, Act.put, List.setIfInBounds_toArray, List.set_cons_zero, List.set_cons_succ]
                refine wpAnyH_take (i := 11) (v := ?_) rfl (by kernel_rfl) (by kernel_rfl) (by kernel_rfl) (fun _ _ _ h => h) (Or.inl ⟨by rfl, ?_⟩) (by assumption) ?_
                rotate_left
                · intro w hSw; (try dsimp only at hSw); go_simp; (try with_reducible rfl)
                try simp only [List.getElem_toArray, List.getElem_cons_zero, List.getElem_cons_succ, Act.put, List.setIfInBounds_toArray, List.set_cons_zero, List.set_cons_succ]
                refine wpAnyH_take (i := 12) (v := ?_) rfl (by kernel_rfl) (by kernel_rfl) (by kernel_rfl) (fun _ _ _ h => h) (Or.inl ⟨by rfl, ?_⟩) (by assumption) ?_
                rotate_left
                · intro w hSw; (try dsimp only at hSw); go_simp; (try with_reducible rfl)
                try simp only [List.getElem_toArray, List.getElem_cons_zero, List.getElem_cons_succ, Act.put, List.setIfInBounds_toArray, List.set_cons_zero, List.set_cons_succ]
                refine wpAnyH_take (i := 15) (v := ?_) rfl (by kernel_rfl) (by kernel_rfl) (by kernel_rfl) (fun _ _ _ h => h) (Or.inl ⟨by rfl, ?_⟩) (by assumption) ?_
                rotate_left
                · intro w hSw; (try dsimp only at hSw); go_simp; (try with_reducible rfl)
                try simp only [List.getElem_toArray, List.getElem_cons_zero, List.getElem_cons_succ, Act.put, List.setIfInBounds_toArray, List.set_cons_zero, List.set_cons_succ]
                refine wpAnyH_take (i := 16) (v := ?_) rfl (by kernel_rfl) (by kernel_rfl) (by kernel_rfl) (fun _ _ _ h => h) (Or.inl ⟨by rfl, ?_⟩) (by assumption) ?_
                rotate_left
                · intro w hSw; (try dsimp only at hSw); go_simp; (try with_reducible rfl)
                try simp only [List.getElem_toArray, List.getElem_cons_zero, List.getElem_cons_succ, Act.put, List.setIfInBounds_toArray, List.set_cons_zero, List.set_cons_succ]
                refine wpAnyH_take (i := 17) (v := ?_) rfl (by kernel_rfl) (by kernel_rfl) (by kernel_rfl) (fun _ _ _ h => h) (Or.inl ⟨by rfl, ?_⟩) (by assumption) ?_
                rotate_left
                · intro w hSw; (try dsimp only at hSw); go_simp; (try with_reducible rfl)
                try simp only [List.getElem_toArray, List.getElem_cons_zero, List.getElem_cons_succ, Act.put, List.setIfInBounds_toArray, List.set_cons_zero, List.set_cons_succ]
                refine wpAnyH_take (i := 18) (v := ?_) rfl (by kernel_rfl) (by kernel_rfl) (by kernel_rfl) (fun _ _ _ h => h) (Or.inl ⟨by rfl, ?_⟩) (by assumption) ?_
                rotate_left
                · intro w hSw; (try dsimp only at hSw); go_simp; (try with_reducible rfl)
                try simp only [List.getElem_toArray, List.getElem_cons_zero, List.getElem_cons_succ, Act.put, List.setIfInBounds_toArray, List.set_cons_zero, List.set_cons_succ]
                refine wpAnyH_take (i := 19) (v := ?_) rfl (by kernel_rfl) (by kernel_rfl) (by kernel_rfl) (fun _ _ _ h => h) (Or.inl ⟨by rfl, ?_⟩) (by assumption) ?_
                rotate_left
                · intro w hSw; (try dsimp only at hSw); go_simp; (try with_reducible rfl)
                try simp only [List.getElem_toArray, List.getElem_cons_zero, List.getElem_cons_succ, Act.put, List.setIfInBounds_toArray, List.set_cons_zero, List.set_cons_succ]
                refine wpAnyH_take (i := 20) (v := undef) rfl (by kernel_rfl) (by kernel_rfl) (by kernel_rfl) (fun _ _ _ h => h) (Or.inr ⟨by rfl, rfl⟩) (by assumption) ?_
                try simp only [List.getElem_toArray, List.getElem_cons_zero, List.getElem_cons_succ, Act.put, List.setIfInBounds_toArray, List.set_cons_zero, List.set_cons_succ]
                refine wpAnyH_take (i := 21) (v := undef) rfl (by kernel_rfl) (by kernel_rfl) (by kernel_rfl) (fun _ _ _ h => h) (Or.inr ⟨by rfl, rfl⟩) (by assumption) ?_
                try simp only [List.getElem_toArray, List.getElem_cons_zero, List.getElem_cons_succ, Act.put, List.setIfInBounds_toArray, List.set_cons_zero, List.set_cons_succ]
                refine wpAnyH_take (i := 22) (v := ?_) rfl (by kernel_rfl) (by kernel_rfl) (by kernel_rfl) (fun _ _ _ h => h) (Or.inl ⟨by rfl, ?_⟩) (by assumption) ?_
                rotate_left
                · intro w hSw; (try dsimp only at hSw); go_simp; (try with_reducible rfl)
                try simp only [List.getElem_toArray, List.getElem_cons_zero, List.getElem_cons_succ, Act.put, List.setIfInBounds_toArray, List.set_cons_zero, List.set_cons_succ]
                refine wpAnyH_take (i := 23) (v := ?_) rfl (by kernel_rfl) (by kernel_rfl) (by kernel_rfl) (fun _ _ _ h => h) (Or.inl ⟨by rfl, ?_⟩) (by assumption) ?_
                rotate_left
                · intro w hSw; (try dsimp only at hSw); go_simp; (try with_reducible rfl)
                try simp only [List.getElem_toArray, List.getElem_cons_zero, List.getElem_cons_succ, Act.put, List.setIfInBounds_toArray, List.set_cons_zero, List.set_cons_succ]
                refine wpAnyH_ready (rs := [25]) (by kernel_rfl) (by simp) ?_
                refine AllReadyH.cons rfl (fun K hK => ?_) ?_
                · go_simp
                  refine hK.out _ _ ?_ (fun hHeld => ?_)
                  · (try dsimp only); go_keep
                  clear hK K
                  try simp only [List.getElem_toArray, List.getElem_cons_zero, List.getElem_cons_succ, Act.put, List.setIfInBounds_toArray, List.set_cons_zero, List.set_cons_succ]
                  refine wpAnyH_done (by kernel_rfl) ?_ _
                  go_wp2_with fail
                  go_meet
                  case rel => exact ⟨w3.heap.size + 1, rfl, by omega, ⟨by rw [← run_no]; exact blk_put3 (blk_drewN (blk_top2 _ _ _) _)⟩, ⟨blk_far3 (blk_drewN (blk_alloc (blk_alloc RB3.out _) _) _) (by omega)⟩, ⟨below_set3 (pw_below_drewN (below_alloc (below_alloc hbw3 _) _) _) (by omega)⟩, cell_far3 (Lib.cell?_alloc_some (W := w3.alloc _) _ (Lib.cell?_alloc_some _ o0)) (by show w3.heap.size + 1 ≠ _; dsimp only; omega), cell_far3 (Lib.cell?_alloc_some (W := w3.alloc _) _ (Lib.cell?_alloc_some _ o1)) (by show w3.heap.size + 1 ≠ _; dsimp only; omega), cell_far3 (Lib.cell?_alloc_some (W := w3.alloc _) _ (Lib.cell?_alloc_some _ o2)) (by show w3.heap.size + 1 ≠ _; dsimp only; omega), cell_far3 (Lib.cell?_alloc_some (W := w3.alloc _) _ (Lib.cell?_alloc_some _ o5)) (by show w3.heap.size + 1 ≠ _; dsimp only; omega), cell_far3 (Lib.cell?_alloc_some (W := w3.alloc _) _ (Lib.cell?_alloc_some _ n9)) (by show w3.heap.size + 1 ≠ _; dsimp only; omega), cell_far3 (Lib.cell?_alloc_some (W := w3.alloc _) _ (Lib.cell?_alloc_some _ f1)) (by show w3.heap.size + 1 ≠ _; dsimp only; omega)⟩
                exact AllReadyH.nil
              exact AllReadyH.nil
            exact AllReadyH.nil
          refine AllReadyH.cons rfl (fun K hK => ?_) ?_
          · go_simp
            refine hK.out _ _ ?_ (fun hHeld => ?_)
            · (try dsimp only); go_keep
            clear hK K
            try simp only [List.getElem_toArray, List.getElem_cons_zero, List.getElem_cons_succ, Act.put, List.setIfInBounds_toArray, List.set_cons_zero, List.set_cons_succ]
            refine wpAnyH_ready (rs := [9]) (by kernel_rfl) (by simp) ?_
            refine AllReadyH.cons rfl (fun K hK => ?_) ?_
            · go_simp
              refine hK.out _ _ ?_ (fun hHeld => ?_)
              · (try dsimp only); go_keep
              clear hK K
              try simp only [List.getElem_toArray, List.getElem_cons_zero, List.getElem_cons_succ, Act.put, List.setIfInBounds_toArray, List.set_cons_zero, List.set_cons_succ]
              refine wpAnyH_ready (rs := [10]) (by kernel_rfl) (by simp) ?_
              refine AllReadyH.cons rfl (fun K hK => ?_) ?_
              · go_simp
                (first | ((with_reducible refine (set3_new a0_0 a0_1 a0_2 _).mono ?_); rintro e w' ⟨rfl, q5, rfl⟩) | ((with_reducible refine (set3_new1 a0_0 a0_1 a0_2 _).mono ?_); rintro e w' ⟨rfl, q5, rfl⟩) | ((with_reducible refine (set3_new2 a0_0 a0_1 a0_2 _ _).mono ?_); rintro e w' ⟨rfl, q5, rfl⟩) | ((with_reducible refine (set3_new4 a0_0 a0_1 a0_2 _ _).mono ?_); rintro e w' ⟨rfl, q5, rfl⟩) | ((with_reducible refine (set3_new5 a0_0 a0_1 a0_2 _ _).mono ?_); rintro e w' ⟨rfl, q5, rfl⟩) | ((with_reducible refine (set3_new6 a0_0 a0_1 a0_2 _ _).mono ?_); rintro e w' ⟨rfl, q5, rfl⟩))
                try go_wp2_with fail
                refine hK.out _ _ ?_ (fun hHeld => ?_)
                · (try dsimp only); go_keep
                clear hK K
                try simp only [List.getElem_toArray, List.getElem_cons_zero, List.getElem_cons_succ, Act.put, List.setIfInBounds_toArray, List.set_cons_zero, List.set_cons_succ]
                refine wpAnyH_take (i := 11) (v := ?_) rfl (by kernel_rfl) (by kernel_rfl) (by kernel_rfl) (fun _ _ _ h => h) (Or.inl ⟨by rfl, ?_⟩) (by assumption) ?_
                rotate_left
                · intro w hSw; (try dsimp only at hSw); go_simp; (try with_reducible rfl)
                try simp only [List.getElem_toArray, List.getElem_cons_zero, List.getElem_cons_succ, Act.put, List.setIfInBounds_toArray, List.set_cons_zero, List.set_cons_succ]
                refine wpAnyH_take (i := 12) (v := ?_) rfl (by kernel_rfl) (by kernel_rfl) (by kernel_rfl) (fun _ _ _ h => h) (Or.inl ⟨by rfl, ?_⟩) (by assumption) ?_
                rotate_left
                · intro w hSw; (try dsimp only at hSw); go_simp; (try with_reducible rfl)
                try simp only [List.getElem_toArray, List.getElem_cons_zero, List.getElem_cons_succ, Act.put, List.setIfInBounds_toArray, List.set_cons_zero, List.set_cons_succ]
                refine wpAnyH_take (i := 15) (v := ?_) rfl (by kernel_rfl) (by kernel_rfl) (by kernel_rfl) (fun _ _ _ h => h) (Or.inl ⟨by rfl, ?_⟩) (by assumption) ?_
                rotate_left
                · intro w hSw; (try dsimp only at hSw); go_simp; (try with_reducible rfl)
                try simp only [List.getElem_toArray, List.getElem_cons_zero, List.getElem_cons_succ, Act.put, List.setIfInBounds_toArray, List.set_cons_zero, List.set_cons_succ]
                refine wpAnyH_take (i := 16) (v := ?_) rfl (by kernel_rfl) (by kernel_rfl) (by kernel_rfl) (fun _ _ _ h => h) (Or.inl ⟨by rfl, ?_⟩) (by assumption) ?_
                rotate_left
                · intro w hSw; (try dsimp only at hSw); go_simp; (try with_reducible rfl)
                try simp only [List.getElem_toArray, List.getElem_cons_zero, List.getElem_cons_succ, Act.put, List.setIfInBounds_toArray, List.set_cons_zero, List.set_cons_succ]
                refine wpAnyH_take (i := 17) (v := ?_) rfl (by kernel_rfl) (by kernel_rfl) (by kernel_rfl) (fun _ _ _ h => h) (Or.inl ⟨by rfl, ?_⟩) (by assumption) ?_
                rotate_left
                · intro w hSw; (try dsimp only at hSw); go_simp; (try with_reducible rfl)
                try simp only [List.getElem_toArray, List.getElem_cons_zero, List.getElem_cons_succ, Act.put, List.setIfInBounds_toArray, List.set_cons_zero, List.set_cons_succ]
                refine wpAnyH_take (i := 18) (v := ?_) rfl (by kernel_rfl) (by kernel_rfl) (by kernel_rfl) (fun _ _ _ h => h) (Or.inl ⟨by rfl, ?_⟩) (by assumption) ?_
                rotate_left
                · intro w hSw; (try dsimp only at hSw); go_simp; (try with_reducible rfl)
                try simp only [List.getElem_toArray, List.getElem_cons_zero, List.getElem_cons_succ, Act.put, List.setIfInBounds_toArray, List.set_cons_zero, List.set_cons_succ]
                refine wpAnyH_take (i := 19) (v := ?_) rfl (by kernel_rfl) (by kernel_rfl) (by kernel_rfl) (fun _ _ _ h => h) (Or.inl ⟨by rfl, ?_⟩) (by assumption) ?_
                rotate_left
                · intro w hSw; (try dsimp only at hSw); go_simp; (try with_reducible rfl)
                try simp only [List.getElem_toArray, List.getElem_cons_zero, List.getElem_cons_succ, Act.put, List.setIfInBounds_toArray, List.set_cons_zero, List.set_cons_succ]
                refine wpAnyH_take (i := 20) (v := undef) rfl (by kernel_rfl) (by kernel_rfl) (by kernel_rfl) (fun _ _ _ h => h) (Or.inr ⟨by rfl, rfl⟩) (by assumption) ?_
                try simp only [List.getElem_toArray, List.getElem_cons_zero, List.getElem_cons_succ, Act.put, List.setIfInBounds_toArray, List.set_cons_zero, List.set_cons_succ]
                refine wpAnyH_take (i := 21) (v := undef) rfl (by kernel_rfl) (by kernel_rfl) (by kernel_rfl) (fun _ _ _ h => h) (Or.inr ⟨by rfl, rfl⟩) (by assumption) ?_
                try simp only [List.getElem_toArray, List.getElem_cons_zero, List.getElem_cons_succ, Act.put, List.setIfInBounds_toArray, List.set_cons_zero, List.set_cons_succ]
                refine wpAnyH_take (i := 22) (v := ?_) rfl (by kernel_rfl) (by kernel_rfl) (by kernel_rfl) (fun _ _ _ h => h) (Or.inl ⟨by rfl, ?_⟩) (by assumption) ?_
                rotate_left
                · intro w hSw; (try dsimp only at hSw); go_simp; (try with_reducible rfl)
                try simp only [List.getElem_toArray, List.getElem_cons_zero, List.getElem_cons_succ, Act.put, List.setIfInBounds_toArray, List.set_cons_zero, List.set_cons_succ]
                refine wpAnyH_take (i := 23) (v := ?_) rfl (by kernel_rfl) (by kernel_rfl) (by kernel_rfl) (fun _ _ _ h => h) (Or.inl ⟨by rfl, ?_⟩) (by assumption) ?_
                rotate_left
                · intro w hSw; (try dsimp only at hSw); go_simp; (try with_reducible rfl)
                try simp only [List.getElem_toArray, List.getElem_cons_zero, List.getElem_cons_succ, Act.put, List.setIfInBounds_toArray, List.set_cons_zero, List.set_cons_succ]
                refine wpAnyH_ready (rs := [25]) (by kernel_rfl) (by simp) ?_
                refine AllReadyH.cons rfl (fun K hK => ?_) ?_
                · go_simp
                  refine hK.out _ _ ?_ (fun hHeld => ?_)
                  · (try dsimp only); go_keep
                  clear hK K
                  try simp only [List.getElem_toArray, List.getElem_cons_zero, List.getElem_cons_succ, Act.put, List.setIfInBounds_toArray, List.set_cons_zero, List.set_cons_succ]
                  refine wpAnyH_done (by kernel_rfl) ?_ _
                  go_wp2_with fail
                  go_meet
                  case rel => exact ⟨w3.heap.size, rfl, by omega, ⟨by rw [← run_no]; exact blk_put3 (blk_drewN (blk_alloc (blk_new _ _) _) _)⟩, ⟨blk_far3 (blk_drewN (blk_alloc (blk_alloc RB3.out _) _) _) (by omega)⟩, ⟨below_set3 (pw_below_drewN (below_alloc (below_alloc hbw3 _) _) _) (by omega)⟩, cell_far3 (Lib.cell?_alloc_some (W := w3.alloc _) _ (Lib.cell?_alloc_some _ o0)) (by show w3.heap.size ≠ _; dsimp only; omega), cell_far3 (Lib.cell?_alloc_some (W := w3.alloc _) _ (Lib.cell?_alloc_some _ o1)) (by show w3.heap.size ≠ _; dsimp only; omega), cell_far3 (Lib.cell?_alloc_some (W := w3.alloc _) _ (Lib.cell?_alloc_some _ o2)) (by show w3.heap.size ≠ _; dsimp only; omega), cell_far3 (Lib.cell?_alloc_some (W := w3.alloc _) _ (Lib.cell?_alloc_some _ o5)) (by show w3.heap.size ≠ _; dsimp only; omega), cell_far3 (Lib.cell?_alloc_some (W := w3.alloc _) _ (Lib.cell?_alloc_some _ n9)) (by show w3.heap.size ≠ _; dsimp only; omega), cell_far3 (Lib.cell?_alloc_some (W := w3.alloc _) _ (Lib.cell?_alloc_some _ f1)) (by show w3.heap.size ≠ _; dsimp only; omega)⟩
                exact AllReadyH.nil
              exact AllReadyH.nil
            exact AllReadyH.nil
          exact AllReadyH.nil
        | false =>
          refine wp_region_held_drew (S := (fun w' => w'.cell? ⟨w.heap.size, 0, none⟩ = some (.bool a0_0) ∧ w'.cell? ⟨w.heap.size, 1, none⟩ = some (.bool a0_1) ∧ w'.cell? ⟨w.heap.size, 2, none⟩ = some (.bool a0_2) ∧ w'.cell? ⟨w.heap.size, 4, none⟩ = some (.bool false) ∧ w'.cell? ⟨w.heap.size, 5, none⟩ = some (.bool a0_5) ∧ w'.cell? ⟨w.heap.size + 1, 8, none⟩ = some (.bool a1_8) ∧ w'.cell? ⟨w.heap.size + 1, 9, none⟩ = some (.bool a1_9) ∧ w'.cell? ⟨w.heap.size + 1 + 1, 0, none⟩ = some (.bool false) ∧ w'.cell? ⟨w.heap.size + 1 + 1, 1, none⟩ = some (.bool a2_1) ∧ w'.cell? ⟨w.heap.size + 1 + 1, 2, none⟩ = some (.bool false))) (by kernel_rfl) ?_ (fun hHeld => ?_)
          · (try dsimp only); go_keep
          refine wpAnyH_take (i := 0) (v := ?_) rfl (by kernel_rfl) (by kernel_rfl) (by kernel_rfl) (fun _ _ _ h => h) (Or.inl ⟨by rfl, ?_⟩) (by assumption) ?_
          rotate_left
          · intro w hSw; (try dsimp only at hSw); go_simp; (try with_reducible rfl)
          try simp only [List.getElem_toArray, List.getElem_cons_zero, List.getElem_cons_succ, Act.put, List.setIfInBounds_toArray, List.set_cons_zero, List.set_cons_succ]
          refine wpAnyH_take (i := 1) (v := ?_) rfl (by kernel_rfl) (by kernel_rfl) (by kernel_rfl) (fun _ _ _ h => h) (Or.inl ⟨by rfl, ?_⟩) (by assumption) ?_
          rotate_left
          · intro w hSw; (try dsimp only at hSw); go_simp; (try with_reducible rfl)
          try simp only [List.getElem_toArray, List.getElem_cons_zero, List.getElem_cons_succ, Act.put, List.setIfInBounds_toArray, List.set_cons_zero, List.set_cons_succ]
          refine wpAnyH_take (i := 2) (v := ?_) rfl (by kernel_rfl) (by kernel_rfl) (by kernel_rfl) (fun _ _ _ h => h) (Or.inl ⟨by rfl, ?_⟩) (by assumption) ?_
          rotate_left
          · intro w hSw; (try dsimp only at hSw); go_simp; (try with_reducible rfl)
          try simp only [List.getElem_toArray, List.getElem_cons_zero, List.getElem_cons_succ, Act.put, List.setIfInBounds_toArray, List.set_cons_zero, List.set_cons_succ]
          refine wpAnyH_take (i := 3) (v := ?_) rfl (by kernel_rfl) (by kernel_rfl) (by kernel_rfl) (fun _ _ _ h => h) (Or.inl ⟨by rfl, ?_⟩) (by assumption) ?_
          rotate_left
          · intro w hSw; (try dsimp only at hSw); go_simp; (try with_reducible rfl)
          try simp only [List.getElem_toArray, List.getElem_cons_zero, List.getElem_cons_succ, Act.put, List.setIfInBounds_toArray, List.set_cons_zero, List.set_cons_succ]
          refine wpAnyH_take (i := 4) (v := ?_) rfl (by kernel_rfl) (by kernel_rfl) (by kernel_rfl) (fun _ _ _ h => h) (Or.inl ⟨by rfl, ?_⟩) (by assumption) ?_
          rotate_left
          · intro w hSw; (try dsimp only at hSw); go_simp; (try with_reducible rfl)
          try simp only [List.getElem_toArray, List.getElem_cons_zero, List.getElem_cons_succ, Act.put, List.setIfInBounds_toArray, List.set_cons_zero, List.set_cons_succ]
          refine wpAnyH_take (i := 5) (v := ?_) rfl (by kernel_rfl) (by kernel_rfl) (by kernel_rfl) (fun _ _ _ h => h) (Or.inl ⟨by rfl, ?_⟩) (by assumption) ?_
          rotate_left
          · intro w hSw; (try dsimp only at hSw); go_simp; (try with_reducible rfl)
          try simp only [List.getElem_toArray, List.getElem_cons_zero, List.getElem_cons_succ, Act.put, List.setIfInBounds_toArray, List.set_cons_zero, List.set_cons_succ]
          refine wpAnyH_take (i := 6) (v := ?_) rfl (by kernel_rfl) (by kernel_rfl) (by kernel_rfl) (fun _ _ _ h => h) (Or.inl ⟨by rfl, ?_⟩) (by assumption) ?_
          rotate_left
          · intro w hSw; (try dsimp only at hSw); go_simp; (try with_reducible rfl)
          try simp only [List.getElem_toArray, List.getElem_cons_zero, List.getElem_cons_succ, Act.put, List.setIfInBounds_toArray, List.set_cons_zero, List.set_cons_succ]
          refine wpAnyH_take (i := 7) (v := ?_) rfl (by kernel_rfl) (by kernel_rfl) (by kernel_rfl) (fun _ _ _ h => h) (Or.inl ⟨by rfl, ?_⟩) (by assumption) ?_
          rotate_left
          · intro w hSw; (try dsimp only at hSw); go_simp; (try with_reducible rfl)
          try simp only [List.getElem_toArray, List.getElem_cons_zero, List.getElem_cons_succ, Act.put, List.setIfInBounds_toArray, List.set_cons_zero, List.set_cons_succ]
          refine wpAnyH_take (i := 8) (v := ?_) rfl (by kernel_rfl) (by kernel_rfl) (by kernel_rfl) (fun _ _ _ h => h) (Or.inl ⟨by rfl, ?_⟩) (by assumption) ?_
          rotate_left
          · intro w hSw; (try dsimp only at hSw); go_simp; (try with_reducible rfl)
          try simp only [List.getElem_toArray, List.getElem_cons_zero, List.getElem_cons_succ, Act.put, List.setIfInBounds_toArray, List.set_cons_zero, List.set_cons_succ]
          refine wpAnyH_take (i := 13) (v := ?_) rfl (by kernel_rfl) (by kernel_rfl) (by kernel_rfl) (fun _ _ _ h => h) (Or.inl ⟨by rfl, ?_⟩) (by assumption) ?_
          rotate_left
          · intro w hSw; (try dsimp only at hSw); go_simp; (try with_reducible rfl)
          try simp only [List.getElem_toArray, List.getElem_cons_zero, List.getElem_cons_succ, Act.put, List.setIfInBounds_toArray, List.set_cons_zero, List.set_cons_succ]
          refine wpAnyH_take (i := 14) (v := ?_) rfl (by kernel_rfl) (by kernel_rfl) (by kernel_rfl) (fun _ _ _ h => h) (Or.inl ⟨by rfl, ?_⟩) (by assumption) ?_
          rotate_left
          · intro w hSw; (try dsimp only at hSw); go_simp; (try with_reducible rfl)
          try simp only [List.getElem_toArray, List.getElem_cons_zero, List.getElem_cons_succ, Act.put, List.setIfInBounds_toArray, List.set_cons_zero, List.set_cons_succ]
          refine wpAnyH_ready (rs := [9, 24]) (by kernel_rfl) (by simp) ?_
          refine AllReadyH.cons rfl (fun K hK => ?_) ?_
          · go_simp
            refine hK.out _ _ ?_ (fun hHeld => ?_)
            · (try dsimp only); go_keep
            clear hK K
            try simp only [List.getElem_toArray, List.getElem_cons_zero, List.getElem_cons_succ, Act.put, List.setIfInBounds_toArray, List.set_cons_zero, List.set_cons_succ]
            refine wpAnyH_ready (rs := [10, 24]) (by kernel_rfl) (by simp) ?_
            refine AllReadyH.cons rfl (fun K hK => ?_) ?_
            · go_simp
              (first | ((with_reducible refine (set3_new a0_0 a0_1 a0_2 _).mono ?_); rintro e w' ⟨rfl, q5, rfl⟩) | ((with_reducible refine (set3_new1 a0_0 a0_1 a0_2 _).mono ?_); rintro e w' ⟨rfl, q5, rfl⟩) | ((with_reducible refine (set3_new2 a0_0 a0_1 a0_2 _ _).mono ?_); rintro e w' ⟨rfl, q5, rfl⟩) | ((with_reducible refine (set3_new4 a0_0 a0_1 a0_2 _ _).mono ?_); rintro e w' ⟨rfl, q5, rfl⟩) | ((with_reducible refine (set3_new5 a0_0 a0_1 a0_2 _ _).mono ?_); rintro e w' ⟨rfl, q5, rfl⟩) | ((with_reducible refine (set3_new6 a0_0 a0_1 a0_2 _ _).mono ?_); rintro e w' ⟨rfl, q5, rfl⟩))
              try go_wp2_with fail
              refine hK.out _ _ ?_ (fun hHeld => ?_)
              · (try dsimp only); go_keep
              clear hK K
              try simp only [List.getElem_toArray, List.getElem_cons_zero, List.getElem_cons_succ, Act.put, List.setIfInBounds_toArray, List.set_cons_zero, List.set_cons_succ]
              refine wpAnyH_take (i := 11) (v := ?_) rfl (by kernel_rfl) (by kernel_rfl) (by kernel_rfl) (fun _ _ _ h => h) (Or.inl ⟨by rfl, ?_⟩) (by assumption) ?_
              rotate_left
              · intro w hSw; (try dsimp only at hSw); go_simp; (try with_reducible rfl)
              try simp only [List.getElem_toArray, List.getElem_cons_zero, List.getElem_cons_succ, Act.put, List.setIfInBounds_toArray, List.set_cons_zero, List.set_cons_succ]
              refine wpAnyH_take (i := 12) (v := ?_) rfl (by kernel_rfl) (by kernel_rfl) (by kernel_rfl) (fun _ _ _ h => h) (Or.inl ⟨by rfl, ?_⟩) (by assumption) ?_
              rotate_left
              · intro w hSw; (try dsimp only at hSw); go_simp; (try with_reducible rfl)
              try simp only [List.getElem_toArray, List.getElem_cons_zero, List.getElem_cons_succ, Act.put, List.setIfInBounds_toArray, List.set_cons_zero, List.set_cons_succ]
              refine wpAnyH_take (i := 15) (v := ?_) rfl (by kernel_rfl) (by kernel_rfl) (by kernel_rfl) (fun _ _ _ h => h) (Or.inl ⟨by rfl, ?_⟩) (by assumption) ?_
              rotate_left
              · intro w hSw; (try dsimp only at hSw); go_simp; (try with_reducible rfl)
              try simp only [List.getElem_toArray, List.getElem_cons_zero, List.getElem_cons_succ, Act.put, List.setIfInBounds_toArray, List.set_cons_zero, List.set_cons_succ]
              refine wpAnyH_take (i := 16) (v := ?_) rfl (by kernel_rfl) (by kernel_rfl) (by kernel_rfl) (fun _ _ _ h => h) (Or.inl ⟨by rfl, ?_⟩) (by assumption) ?_
              rotate_left
              · intro w hSw; (try dsimp only at hSw); go_simp; (try with_reducible rfl)
              try simp only [List.getElem_toArray, List.getElem_cons_zero, List.getElem_cons_succ, Act.put, List.setIfInBounds_toArray, List.set_cons_zero, List.set_cons_succ]
              refine wpAnyH_take (i := 17) (v := ?_) rfl (by kernel_rfl) (by kernel_rfl) (by kernel_rfl) (fun _ _ _ h => h) (Or.inl ⟨by rfl, ?_⟩) (by assumption) ?_
              rotate_left
              · intro w hSw; (try dsimp only at hSw); go_simp; (try with_reducible rfl)
              try simp only [List.getElem_toArray, List.getElem_cons_zero, List.getElem_cons_succ, Act.put, List.setIfInBounds_toArray, List.set_cons_zero, List.set_cons_succ]
              refine wpAnyH_take (i := 18) (v := ?_) rfl (by kernel_rfl) (by kernel_rfl) (by kernel_rfl) (fun _ _ _ h => h) (Or.inl ⟨by rfl, ?_⟩) (by assumption) ?_
              rotate_left
              · intro w hSw; (try dsimp only at hSw); go_simp; (try with_reducible rfl)
              try simp only [List.getElem_toArray, List.getElem_cons_zero, List.getElem_cons_succ, Act.put, List.setIfInBounds_toArray, List.set_cons_zero, List.set_cons_succ]
              refine wpAnyH_take (i := 19) (v := ?_) rfl (by kernel_rfl) (by kernel_rfl) (by kernel_rfl) (fun _ _ _ h => h) (Or.inl ⟨by rfl, ?_⟩) (by assumption) ?_
              rotate_left
              · intro w hSw; (try dsimp only at hSw); go_simp; (try with_reducible rfl)
              try simp only [List.getElem_toArray, List.getElem_cons_zero, List.getElem_cons_succ, Act.put, List.setIfInBounds_toArray, List.set_cons_zero, List.set_cons_succ]
              refine wpAnyH_take (i := 20) (v := ?_) rfl (by kernel_rfl) (by kernel_rfl) (by kernel_rfl) (fun _ _ _ h => h) (Or.inl ⟨by rfl, ?_⟩) (by assumption) ?_
              rotate_left
              · intro w hSw; (try dsimp only at hSw); go_simp; (try with_reducible rfl)
              try simp only [List.getElem_toArray, List.getElem_cons_zero, List.getElem_cons_succ, Act.put, List.setIfInBounds_toArray, List.set_cons_zero, List.set_cons_succ]
              refine wpAnyH_take (i := 21) (v := ?_) rfl (by kernel_rfl) (by kernel_rfl) (by kernel_rfl) (fun _ _ _ h => h) (Or.inl ⟨by rfl, ?_⟩) (by assumption) ?_
              rotate_left
              · intro w hSw; (try dsimp only at hSw); go_simp; (try with_reducible rfl)
              try simp only [List.getElem_toArray, List.getElem_cons_zero, List.getElem_cons_succ, Act.put, List.setIfInBounds_toArray, List.set_cons_zero, List.set_cons_succ]
              refine wpAnyH_take (i := 22) (v := ?_) rfl (by kernel_rfl) (by kernel_rfl) (by kernel_rfl) (fun _ _ _ h => h) (Or.inl ⟨by rfl, ?_⟩) (by assumption) ?_
              rotate_left
              · intro w hSw; (try dsimp only at hSw); go_simp; (try with_reducible rfl)
              try simp only [List.getElem_toArray, List.getElem_cons_zero, List.getElem_cons_succ, Act.put, List.setIfInBounds_toArray, List.set_cons_zero, List.set_cons_succ]
              refine wpAnyH_take (i := 23) (v := ?_) rfl (by kernel_rfl) (by kernel_rfl) (by kernel_rfl) (fun _ _ _ h => h) (Or.inl ⟨by rfl, ?_⟩) (by assumption) ?_
              rotate_left
              · intro w hSw; (try dsimp only at hSw); go_simp; (try with_reducible rfl)
              try simp only [List.getElem_toArray, List.getElem_cons_zero, List.getElem_cons_succ, Act.put, List.setIfInBounds_toArray, List.set_cons_zero, List.set_cons_succ]
              refine wpAnyH_ready (rs := [24]) (by kernel_rfl) (by simp) ?_
              refine AllReadyH.cons rfl (fun K hK => ?_) ?_
              · go_simp
                refine hK.out _ _ ?_ (fun hHeld => ?_)
                · (try dsimp only); go_keep
                clear hK K
                try simp only [List.getElem_toArray, List.getElem_cons_zero, List.getElem_cons_succ, Act.put, List.setIfInBounds_toArray, List.set_cons_zero, List.set_cons_succ]
                refine wpAnyH_ready (rs := [25]) (by kernel_rfl) (by simp) ?_
                refine AllReadyH.cons rfl (fun K hK => ?_) ?_
                · go_simp
                  refine hK.out _ _ ?_ (fun hHeld => ?_)
                  · (try dsimp only); go_keep
                  clear hK K
                  try simp only [List.getElem_toArray, List.getElem_cons_zero, List.getElem_cons_succ, Act.put, List.setIfInBounds_toArray, List.set_cons_zero, List.set_cons_succ]
                  refine wpAnyH_done (by kernel_rfl) ?_ _
                  go_wp2_with fail
                  go_meet
                  case rel => exact ⟨w3.heap.size + 1, rfl, by omega, ⟨by rw [← run_no]; exact blk_top _ _ _ _⟩, ⟨blk_alloc (blk_drewN (blk_alloc RB3.out _) _) _⟩, ⟨below_alloc (pw_below_drewN (below_alloc hbw3 _) _) _⟩, Lib.cell?_alloc_some (W := (w3.alloc _).drewN _) _ (Lib.cell?_alloc_some _ o0), Lib.cell?_alloc_some (W := (w3.alloc _).drewN _) _ (Lib.cell?_alloc_some _ o1), Lib.cell?_alloc_some (W := (w3.alloc _).drewN _) _ (Lib.cell?_alloc_some _ o2), Lib.cell?_alloc_some (W := (w3.alloc _).drewN _) _ (Lib.cell?_alloc_some _ o5), Lib.cell?_alloc_some (W := (w3.alloc _).drewN _) _ (Lib.cell?_alloc_some _ n9), Lib.cell?_alloc_some (W := (w3.alloc _).drewN _) _ (Lib.cell?_alloc_some _ f1)⟩
                exact AllReadyH.nil
              exact AllReadyH.nil
            refine AllReadyH.cons rfl (fun K hK => ?_) ?_
            · go_simp
              refine hK.out _ _ ?_ (fun hHeld => ?_)
              · (try dsimp only); go_keep
              clear hK K
              try simp only [List.getElem_toArray, List.getElem_cons_zero, List.getElem_cons_succ, Act.put, List.setIfInBounds_toArray, List.set_cons_zero, List.set_cons_succ]
              refine wpAnyH_ready (rs := [10]) (by kernel_rfl) (by simp) ?_
              refine AllReadyH.cons rfl (fun K hK => ?_) ?_
              · go_simp
                (first | ((with_reducible refine (set3_new a0_0 a0_1 a0_2 _).mono ?_); rintro e w' ⟨rfl, q5, rfl⟩) | ((with_reducible refine (set3_new1 a0_0 a0_1 a0_2 _).mono ?_); rintro e w' ⟨rfl, q5, rfl⟩) | ((with_reducible refine (set3_new2 a0_0 a0_1 a0_2 _ _).mono ?_); rintro e w' ⟨rfl, q5, rfl⟩) | ((with_reducible refine (set3_new4 a0_0 a0_1 a0_2 _ _).mono ?_); rintro e w' ⟨rfl, q5, rfl⟩) | ((with_reducible refine (set3_new5 a0_0 a0_1 a0_2 _ _).mono ?_); rintro e w' ⟨rfl, q5, rfl⟩) | ((with_reducible refine (set3_new6 a0_0 a0_1 a0_2 _ _).mono ?_); rintro e w' ⟨rfl, q5, rfl⟩))
                try go_wp2_with fail
                refine hK.out _ _ ?_ (fun hHeld => ?_)
                · (try dsimp only); go_keep
                clear hK K
                try simp only [List.getElem_toArray, List.getElem_cons_zero, List.getElem_cons_succ, Act.put, List.setIfInBounds_toArray, List.set_cons_zero, List.set_cons_succ]
                refine wpAnyH_take (i := 11) (v := ?_) rfl (by kernel_rfl) (by kernel_rfl) (by kernel_rfl) (fun _ _ _ h => h) (Or.inl ⟨by rfl, ?_⟩) (by assumption) ?_
                rotate_left
                · intro w hSw; (try dsimp only at hSw); go_simp; (try with_reducible rfl)
                try simp only [List.getElem_toArray, List.getElem_cons_zero, List.getElem_cons_succ, Act.put, List.setIfInBounds_toArray, List.set_cons_zero, List.set_cons_succ]
                refine wpAnyH_take (i := 12) (v := ?_) rfl (by kernel_rfl) (by kernel_rfl) (by kernel_rfl) (fun _ _ _ h => h) (Or.inl ⟨by rfl, ?_⟩) (by assumption) ?_
                rotate_left
                · intro w hSw; (try dsimp only at hSw); go_simp; (try with_reducible rfl)
                try simp only [List.getElem_toArray, List.getElem_cons_zero, List.getElem_cons_succ, Act.put, List.setIfInBounds_toArray, List.set_cons_zero, List.set_cons_succ]
                refine wpAnyH_take (i := 15) (v := ?_) rfl (by kernel_rfl) (by kernel_rfl) (by kernel_rfl) (fun _ _ _ h => h) (Or.inl ⟨by rfl, ?_⟩) (by assumption) ?_
                rotate_left
                · intro w hSw; (try dsimp only at hSw); go_simp; (try with_reducible rfl)
                try simp only [List.getElem_toArray, List.getElem_cons_zero, List.getElem_cons_succ, Act.put, List.setIfInBounds_toArray, List.set_cons_zero, List.set_cons_succ]
                refine wpAnyH_take (i := 16) (v := ?_) rfl (by kernel_rfl) (by kernel_rfl) (by kernel_rfl) (fun _ _ _ h => h) (Or.inl ⟨by rfl, ?_⟩) (by assumption) ?_
                rotate_left
                · intro w hSw; (try dsimp only at hSw); go_simp; (try with_reducible rfl)
                try simp only [List.getElem_toArray, List.getElem_cons_zero, List.getElem_cons_succ, Act.put, List.setIfInBounds_toArray, List.set_cons_zero, List.set_cons_succ]
                refine wpAnyH_take (i := 17) (v := ?_) rfl (by kernel_rfl) (by kernel_rfl) (by kernel_rfl) (fun _ _ _ h => h) (Or.inl ⟨by rfl, ?_⟩) (by assumption) ?_
                rotate_left
                · intro w hSw; (try dsimp only at hSw); go_simp; (try with_reducible rfl)
                try simp only [List.getElem_toArray, List.getElem_cons_zero, List.getElem_cons_succ, Act.put, List.setIfInBounds_toArray, List.set_cons_zero, List.set_cons_succ]
                refine wpAnyH_take (i := 18) (v := ?_) rfl (by kernel_rfl) (by kernel_rfl) (by kernel_rfl) (fun _ _ _ h => h) (Or.inl ⟨by rfl, ?_⟩) (by assumption) ?_
                rotate_left
                · intro w hSw; (try dsimp only at hSw); go_simp; (try with_reducible rfl)
                try simp only [List.getElem_toArray, List.getElem_cons_zero, List.getElem_cons_succ, Act.put, List.setIfInBounds_toArray, List.set_cons_zero, List.set_cons_succ]
                refine wpAnyH_take (i := 19) (v := ?_) rfl (by kernel_rfl) (by kernel_rfl) (by kernel_rfl) (fun _ _ _ h => h) (Or.inl ⟨by rfl, ?_⟩) (by assumption) ?_
                rotate_left
                · intro w hSw; (try dsimp only at hSw); go_simp; (try with_reducible rfl)
                try simp only [List.getElem_toArray, List.getElem_cons_zero, List.getElem_cons_succ, Act.put, List.setIfInBounds_toArray, List.set_cons_zero, List.set_cons_succ]
                refine wpAnyH_take (i := 20) (v := ?_) rfl (by kernel_rfl) (by kernel_rfl) (by kernel_rfl) (fun _ _ _ h => h) (Or.inl ⟨by rfl, ?_⟩) (by assumption) ?_
                rotate_left
                · intro w hSw; (try dsimp only at hSw); go_simp; (try with_reducible rfl)
                try simp only [List.getElem_toArray, List.getElem_cons_zero, List.getElem_cons_succ, Act.put, List.setIfInBounds_toArray, List.set_cons_zero, List.set_cons_succ]
                refine wpAnyH_take (i := 21) (v := ?_) rfl (by kernel_rfl) (by kernel_rfl) (by kernel_rfl) (fun _ _ _ h => h) (Or.inl ⟨by rfl, ?_⟩) (by assumption) ?_
                rotate_left
                · intro w hSw; (try dsimp only at hSw); go_simp; (try with_reducible rfl)
                try simp only [List.getElem_toArray, List.getElem_cons_zero, List.getElem_cons_succ, Act.put, List.setIfInBounds_toArray, List.set_cons_zero, List.set_cons_succ]
                refine wpAnyH_take (i := 22) (v := ?_) rfl (by kernel_rfl) (by kernel_rfl) (by kernel_rfl) (fun _ _ _ h => h) (Or.inl ⟨by rfl, ?_⟩) (by assumption) ?_
                rotate_left
                · intro w hSw; (try dsimp only at hSw); go_simp; (try with_reducible rfl)
                try simp only [List.getElem_toArray, List.getElem_cons_zero, List.getElem_cons_succ, Act.put, List.setIfInBounds_toArray, List.set_cons_zero, List.set_cons_succ]
                refine wpAnyH_take (i := 23) (v := ?_) rfl (by kernel_rfl) (by kernel_rfl) (by kernel_rfl) (fun _ _ _ h => h) (Or.inl ⟨by rfl, ?_⟩) (by assumption) ?_
                rotate_left
                · intro w hSw; (try dsimp only at hSw); go_simp; (try with_reducible rfl)
                try simp only [List.getElem_toArray, List.getElem_cons_zero, List.getElem_cons_succ, Act.put, List.setIfInBounds_toArray, List.set_cons_zero, List.set_cons_succ]
                refine wpAnyH_ready (rs := [25]) (by kernel_rfl) (by simp) ?_
                refine AllReadyH.cons rfl (fun K hK => ?_) ?_
                · go_simp
                  refine hK.out _ _ ?_ (fun hHeld => ?_)
                  · (try dsimp only); go_keep
                  clear hK K
                  try simp only [List.getElem_toArray, List.getElem_cons_zero, List.getElem_cons_succ, Act.put, List.setIfInBounds_toArray, List.set_cons_zero, List.set_cons_succ]
                  refine wpAnyH_done (by kernel_rfl) ?_ _
                  go_wp2_with fail
                  go_meet
                  case rel => exact ⟨w3.heap.size + 1, rfl, by omega, ⟨by rw [← run_no]; exact blk_put3 (blk_drewN (blk_top2 _ _ _) _)⟩, ⟨blk_far3 (blk_drewN (blk_alloc (blk_alloc RB3.out _) _) _) (by omega)⟩, ⟨below_set3 (pw_below_drewN (below_alloc (below_alloc hbw3 _) _) _) (by omega)⟩, cell_far3 (Lib.cell?_alloc_some (W := w3.alloc _) _ (Lib.cell?_alloc_some _ o0)) (by show w3.heap.size + 1 ≠ _; dsimp only; omega), cell_far3 (Lib.cell?_alloc_some (W := w3.alloc _) _ (Lib.cell?_alloc_some _ o1)) (by show w3.heap.size + 1 ≠ _; dsimp only; omega), cell_far3 (Lib.cell?_alloc_some (W := w3.alloc _) _ (Lib.cell?_alloc_some _ o2)) (by show w3.heap.size + 1 ≠ _; dsimp only; omega), cell_far3 (Lib.cell?_alloc_some (W := w3.alloc _) _ (Lib.cell?_alloc_some _ o5)) (by show w3.heap.size + 1 ≠ _; dsimp only; omega), cell_far3 (Lib.cell?_alloc_some (W := w3.alloc _) _ (Lib.cell?_alloc_some _ n9)) (by show w3.heap.size + 1 ≠ _; dsimp only; omega), cell_far3 (Lib.cell?_alloc_some (W := w3.alloc _) _ (Lib.cell?_alloc_some _ f1)) (by show w3.heap.size + 1 ≠ _; dsimp only; omega)⟩
                exact AllReadyH.nil
              exact AllReadyH.nil
            exact AllReadyH.nil
          refine AllReadyH.cons rfl (fun K hK => ?_) ?_
          · go_simp
            refine hK.out _ _ ?_ (fun hHeld => ?_)
            · (try dsimp only); go_keep
            clear hK K
            try simp only [List.getElem_toArray, List.getElem_cons_zero, List.getElem_cons_succ, Act.put, List.setIfInBounds_toArray, List.set_cons_zero, List.set_cons_succ]
            refine wpAnyH_ready (rs := [9]) (by kernel_rfl) (by simp) ?_
            refine AllReadyH.cons rfl (fun K hK => ?_) ?_
            · go_simp
              refine hK.out _ _ ?_ (fun hHeld => ?_)
              · (try dsimp only); go_keep
              clear hK K
              try simp only [List.getElem_toArray, List.getElem_cons_zero, List.getElem_cons_succ, Act.put, List.setIfInBounds_toArray, List.set_cons_zero, List.set_cons_succ]
              refine wpAnyH_ready (rs := [10]) (by kernel_rfl) (by simp) ?_
              refine AllReadyH.cons rfl (fun K hK => ?_) ?_
              · go_simp
                (first | ((with_reducible refine (set3_new a0_0 a0_1 a0_2 _).mono ?_); rintro e w' ⟨rfl, q5, rfl⟩) | ((with_reducible refine (set3_new1 a0_0 a0_1 a0_2 _).mono ?_); rintro e w' ⟨rfl, q5, rfl⟩) | ((with_reducible refine (set3_new2 a0_0 a0_1 a0_2 _ _).mono ?_); rintro e w' ⟨rfl, q5, rfl⟩) | ((with_reducible refine (set3_new4 a0_0 a0_1 a0_2 _ _).mono ?_); rintro e w' ⟨rfl, q5, rfl⟩) | ((with_reducible refine (set3_new5 a0_0 a0_1 a0_2 _ _).mono ?_); rintro e w' ⟨rfl, q5, rfl⟩) | ((with_reducible refine (set3_new6 a0_0 a0_1 a0_2 _ _).mono ?_); rintro e w' ⟨rfl, q5, rfl⟩))
                try go_wp2_with fail
                refine hK.out _ _ ?_ (fun hHeld => ?_)
                · (try dsimp only); go_keep
                clear hK K
                try simp only [List.getElem_toArray, List.getElem_cons_zero, List.getElem_cons_succ, Act.put, List.setIfInBounds_toArray, List.set_cons_zero, List.set_cons_succ]
                refine wpAnyH_take (i := 11) (v := ?_) rfl (by kernel_rfl) (by kernel_rfl) (by kernel_rfl) (fun _ _ _ h => h) (Or.inl ⟨by rfl, ?_⟩) (by assumption) ?_
                rotate_left
                · intro w hSw; (try dsimp only at hSw); go_simp; (try with_reducible rfl)
                try simp only [List.getElem_toArray, List.getElem_cons_zero, List.getElem_cons_succ, Act.put, List.setIfInBounds_toArray, List.set_cons_zero, List.set_cons_succ]
                refine wpAnyH_take (i := 12) (v := ?_) rfl (by kernel_rfl) (by kernel_rfl) (by kernel_rfl) (fun _ _ _ h => h) (Or.inl ⟨by rfl, ?_⟩) (by assumption) ?_
                rotate_left
                · intro w hSw; (try dsimp only at hSw); go_simp; (try with_reducible rfl)
                try simp only [List.getElem_toArray, List.getElem_cons_zero, List.getElem_cons_succ, Act.put, List.setIfInBounds_toArray, List.set_cons_zero, List.set_cons_succ]
                refine wpAnyH_take (i := 15) (v := ?_) rfl (by kernel_rfl) (by kernel_rfl) (by kernel_rfl) (fun _ _ _ h => h) (Or.inl ⟨by rfl, ?_⟩) (by assumption) ?_
                rotate_left
                · intro w hSw; (try dsimp only at hSw); go_simp; (try with_reducible rfl)
                try simp only [List.getElem_toArray, List.getElem_cons_zero, List.getElem_cons_succ, Act.put, List.setIfInBounds_toArray, List.set_cons_zero, List.set_cons_succ]
                refine wpAnyH_take (i := 16) (v := ?_) rfl (by kernel_rfl) (by kernel_rfl) (by kernel_rfl) (fun _ _ _ h => h) (Or.inl ⟨by rfl, ?_⟩) (by assumption) ?_
                rotate_left
                · intro w hSw; (try dsimp only at hSw); go_simp; (try with_reducible rfl)
                try simp only [List.getElem_toArray, List.getElem_cons_zero, List.getElem_cons_succ, Act.put, List.setIfInBounds_toArray, List.set_cons_zero, List.set_cons_succ]
                refine wpAnyH_take (i := 17) (v := ?_) rfl (by kernel_rfl) (by kernel_rfl) (by kernel_rfl) (fun _ _ _ h => h) (Or.inl ⟨by rfl, ?_⟩) (by assumption) ?_
                rotate_left
                · intro w hSw; (try dsimp only at hSw); go_simp; (try with_reducible rfl)
                try simp only [List.getElem_toArray, List.getElem_cons_zero, List.getElem_cons_succ, Act.put, List.setIfInBounds_toArray, List.set_cons_zero, List.set_cons_succ]
                refine wpAnyH_take (i := 18) (v := ?_) rfl (by kernel_rfl) (by kernel_rfl) (by kernel_rfl) (fun _ _ _ h => h) (Or.inl ⟨by rfl, ?_⟩) (by assumption) ?_
                rotate_left
                · intro w hSw; (try dsimp only at hSw); go_simp; (try with_reducible rfl)
                try simp only [List.getElem_toArray, List.getElem_cons_zero, List.getElem_cons_succ, Act.put, List.setIfInBounds_toArray, List.set_cons_zero, List.set_cons_succ]
                refine wpAnyH_take (i := 19) (v := ?_) rfl (by kernel_rfl) (by kernel_rfl) (by kernel_rfl) (fun _ _ _ h => h) (Or.inl ⟨by rfl, ?_⟩) (by assumption) ?_
                rotate_left
                · intro w hSw; (try dsimp only at hSw); go_simp; (try with_reducible rfl)
                try simp only [List.getElem_toArray, List.getElem_cons_zero, List.getElem_cons_succ, Act.put, List.setIfInBounds_toArray, List.set_cons_zero, List.set_cons_succ]
                refine wpAnyH_take (i := 20) (v := ?_) rfl (by kernel_rfl) (by kernel_rfl) (by kernel_rfl) (fun _ _ _ h => h) (Or.inl ⟨by rfl, ?_⟩) (by assumption) ?_
                rotate_left
                · intro w hSw; (try dsimp only at hSw); go_simp; (try with_reducible rfl)
                try simp only [List.getElem_toArray, List.getElem_cons_zero, List.getElem_cons_succ, Act.put, List.setIfInBounds_toArray, List.set_cons_zero, List.set_cons_succ]
                refine wpAnyH_take (i := 21) (v := ?_) rfl (by kernel_rfl) (by kernel_rfl) (by kernel_rfl) (fun _ _ _ h => h) (Or.inl ⟨by rfl, ?_⟩) (by assumption) ?_
                rotate_left
                · intro w hSw; (try dsimp only at hSw); go_simp; (try with_reducible rfl)
                try simp only [List.getElem_toArray, List.getElem_cons_zero, List.getElem_cons_succ, Act.put, List.setIfInBounds_toArray, List.set_cons_zero, List.set_cons_succ]
                refine wpAnyH_take (i := 22) (v := ?_) rfl (by kernel_rfl) (by kernel_rfl) (by kernel_rfl) (fun _ _ _ h => h) (Or.inl ⟨by rfl, ?_⟩) (by assumption) ?_
                rotate_left
                · intro w hSw; (try dsimp only at hSw); go_simp; (try with_reducible rfl)
                try simp only [List.getElem_toArray, List.getElem_cons_zero, List.getElem_cons_succ, Act.put, List.setIfInBounds_toArray, List.set_cons_zero, List.set_cons_succ]
                refine wpAnyH_take (i := 23) (v := ?_) rfl (by kernel_rfl) (by kernel_rfl) (by kernel_rfl) (fun _ _ _ h => h) (Or.inl ⟨by rfl, ?_⟩) (by assumption) ?_
                rotate_left
                · intro w hSw; (try dsimp only at hSw); go_simp; (try with_reducible rfl)
                try simp only [List.getElem_toArray, List.getElem_cons_zero, List.getElem_cons_succ, Act.put, List.setIfInBounds_toArray, List.set_cons_zero, List.set_cons_succ]
                refine wpAnyH_ready (rs := [25]) (by kernel_rfl) (by simp) ?_
                refine AllReadyH.cons rfl (fun K hK => ?_) ?_
                · go_simp
                  refine hK.out _ _ ?_ (fun hHeld => ?_)
                  · (try dsimp only); go_keep
                  clear hK K
                  try simp only [List.getElem_toArray, List.getElem_cons_zero, List.getElem_cons_succ, Act.put, List.setIfInBounds_toArray, List.set_cons_zero, List.set_cons_succ]
                  refine wpAnyH_done (by kernel_rfl) ?_ _
                  go_wp2_with fail
                  go_meet
                  case rel => exact ⟨w3.heap.size, rfl, by omega, ⟨by rw [← run_no]; exact blk_put3 (blk_drewN (blk_alloc (blk_new _ _) _) _)⟩, ⟨blk_far3 (blk_drewN (blk_alloc (blk_alloc RB3.out _) _) _) (by omega)⟩, ⟨below_set3 (pw_below_drewN (below_alloc (below_alloc hbw3 _) _) _) (by omega)⟩, cell_far3 (Lib.cell?_alloc_some (W := w3.alloc _) _ (Lib.cell?_alloc_some _ o0)) (by show w3.heap.size ≠ _; dsimp only; omega), cell_far3 (Lib.cell?_alloc_some (W := w3.alloc _) _ (Lib.cell?_alloc_some _ o1)) (by show w3.heap.size ≠ _; dsimp only; omega), cell_far3 (Lib.cell?_alloc_some (W := w3.alloc _) _ (Lib.cell?_alloc_some _ o2)) (by show w3.heap.size ≠ _; dsimp only; omega), cell_far3 (Lib.cell?_alloc_some (W := w3.alloc _) _ (Lib.cell?_alloc_some _ o5)) (by show w3.heap.size ≠ _; dsimp only; omega), cell_far3 (Lib.cell?_alloc_some (W := w3.alloc _) _ (Lib.cell?_alloc_some _ n9)) (by show w3.heap.size ≠ _; dsimp only; omega), cell_far3 (Lib.cell?_alloc_some (W := w3.alloc _) _ (Lib.cell?_alloc_some _ f1)) (by show w3.heap.size ≠ _; dsimp only; omega)⟩
                exact AllReadyH.nil
              exact AllReadyH.nil
            exact AllReadyH.nil
          exact AllReadyH.nil
  case rest =>
    obtain ⟨B, rfl, hB3, HBB, HRB, HBw, q0, q1, q2, q5, p9, g1⟩ := hcut
    have hBB := HBB.out
    rw [HRUN.out, HFORG.out] at hBB
    have hne : B ≠ w.heap.size + 1 + 1 + 1 := by omega
    have hne0 : B ≠ w.heap.size := by omega
    have hne1 : B ≠ w.heap.size + 1 := by omega
    have hne2 : B ≠ w.heap.size + 1 + 1 := by omega
    have HE := Aside0.mk (show (a0_0 || (run && (!a2_1 && !a0_5 && !a1_9))) = echo by rw [← HECHO.out, ← HRUN.out]; unfold echoR; cases a0_0 <;> cases (runR _ a0_1 a0_2 a2_2) <;> cases a2_1 <;> cases a0_5 <;> cases a1_9 <;> rfl)
    have b0 : wc.cell? ⟨B, 0, none⟩ = some (.bool false) := (blk_cell hBB 0).trans rfl
    have b1 : wc.cell? ⟨B, 1, none⟩ = some (.bool run) := (blk_cell hBB 1).trans rfl
    have b2 : wc.cell? ⟨B, 2, none⟩ = some (.bool forg) := (blk_cell hBB 2).trans rfl
    have bf0 := blk_frozen hBB 0
    have hBlt := blk_lt hBB
    have r0' : wc.cell? ⟨w.heap.size + 1 + 1 + 1, 0, none⟩ = some (.bool false) := (blk_cell HRB.out 0).trans rfl
    have r1' : wc.cell? ⟨w.heap.size + 1 + 1 + 1, 1, none⟩ = some (.bool false) := (blk_cell HRB.out 1).trans rfl
    have r2' : wc.cell? ⟨w.heap.size + 1 + 1 + 1, 2, none⟩ = some (.bool false) := (blk_cell HRB.out 2).trans rfl
    have rf0 := blk_frozen HRB.out 0
    have rf1 := blk_frozen HRB.out 1
    have rf2 := blk_frozen HRB.out 2
    have hRlt := blk_lt HRB.out
    have hx1 : B ≠ wc.heap.size := by omega
    have hx2 : w.heap.size + 1 + 1 + 1 ≠ wc.heap.size := by omega
    have hx3 : wc.heap.size ≠ B := by omega
    have hx4 : wc.heap.size ≠ w.heap.size + 1 + 1 + 1 := by omega
    have hx5 : w.heap.size + 1 + 1 + 1 ≠ B := by omega
    have c0 := fun o => Lib.cell?_alloc_some (W := wc) o b0
    have c1 := fun o => Lib.cell?_alloc_some (W := wc) o b1
    have c2 := fun o => Lib.cell?_alloc_some (W := wc) o b2
    have c3 := fun o => Lib.cell?_alloc_some (W := wc) o r0'
    have c4 := fun o => Lib.cell?_alloc_some (W := wc) o r1'
    have c5 := fun o => Lib.cell?_alloc_some (W := wc) o r2'
    have d0 := fun o => (blk_frozen (blk_alloc HRB.out o) 0)
    have d1 := fun o => (blk_frozen (blk_alloc HRB.out o) 1)
    have d2 := fun o => (blk_frozen (blk_alloc HRB.out o) 2)
    have d3 := fun o => (blk_frozen (blk_alloc hBB o) 0)
    have HBk := Aside0.mk hBB
    clear hBB
    clear o0 o1 o2 o4 o5 n8 n9 f0 f1 f2 r0 r1 r2 z0 z1 z2 n0 n1 n2 n3
    clear Ao0 AAo0 Ao1 AAo1 Ao2 AAo2 Ao4 AAo4 Ao5 AAo5 An8 AAn8 An9 AAn9 Af0 AAf0 Af1 AAf1 Af2 AAf2 Ar0 AAr0 Ar1 AAr1 Ar2 AAr2 AGo0 AGo1 AGo2 AGo4 AGo5 AGn8 AGn9 AGf0 AGf1 AGf2 AGr0 AGr1 AGr2 F0 FF0 FG0 F1 FF1 FG1 F2 FF2 FG2
    cases a0_0 with
    | true =>
      have he : echo = true := HE.out.symm
      subst he
      go_wp2_with fail
      refine bodyPost_ret (results_ct rfl _ _ (w.heap.size + 1 + 1 + 1) 31 #[.bool true, .bool run, .bool forg] (0, 0) _ rfl (blk_put3 (blk_far HRB.out (by show w.heap.size + 1 + 1 + 1 ≠ B; omega) _)) Try.underlying31 rfl (by kernel_rfl)) rfl ⟨rfl, below_set3 (below_set HBw.out (by omega)) (by omega)⟩
    | false =>
      cases run with
      | false =>
        have he : echo = false := HE.out.symm
        subst he
        go_wp2_with fail
        refine bodyPost_ret (results_ct rfl _ _ (w.heap.size + 1 + 1 + 1) 31 #[.bool false, .bool false, .bool forg] (0, 0) _ rfl (blk_put3 (blk_far HRB.out (by show w.heap.size + 1 + 1 + 1 ≠ B; omega) _)) Try.underlying31 rfl (by kernel_rfl)) rfl ⟨rfl, below_set3 (below_set HBw.out (by omega)) (by omega)⟩
      | true =>
        have hc : (cnt3 a2_1 a0_5 a1_9 == 0) = echo := by rw [cnt3_zero, ← HE.out]; rfl
        go_wp2_with (go_at_call 19; (refine (set3_call _ a2_1 a0_5 a1_9 _ ?h0 ?h1 ?h2).mono ?_); (case h0 => simp); (case h1 => simp); (case h2 => simp); rintro e w' ⟨rfl, ⟨q6, rfl⟩⟩)
        refine bodyPost_ret (results_ct rfl _ _ (w.heap.size + 1 + 1 + 1) 31 #[.bool echo, .bool true, .bool forg] (0, 0) _ rfl (blk_put3 (blk_far (blk_drewN (blk_alloc HRB.out _) _) (by show w.heap.size + 1 + 1 + 1 ≠ B; omega) _)) Try.underlying31 rfl (by kernel_rfl)) rfl ⟨rfl, below_set3 (below_set (pw_below_drewN (below_alloc HBw.out _) _) (by omega)) (by omega)⟩
end
def modes_Of.f (k : Nat) (a0_0 a0_1 a0_2 a0_3 a0_4 a0_5 : Bool) (a0_6 : Int) (l0_7 : List ByteArray) (l0_8 : List S58) (l0_9 : List ByteArray) (a1_0 : ByteArray) (l1_1 l1_2 : List ByteArray) (a1_3 : Bool) (a1_4 a1_5 : ByteArray) (a1_6 a1_7 a1_8 a1_9 : Bool) (a2_0 a2_1 a2_2 : Bool) : Option (Bool × Bool × Bool × Int) := (modes_Check.f k a0_0 a0_1 a0_2 a0_3 a0_4 a0_5 a0_6 l0_7 l0_8 l0_9).bind fun t => if t = 0 then ((modes_alone.f k a1_0 l1_1 l1_2 a1_3 a1_4 a1_5 a1_6 a1_7 a1_8 a1_9).bind fun u => if u = 0 then some (echoR a0_0 a0_1 a0_2 a0_5 a1_9 a2_1 a2_2, runR a0_0 a0_1 a0_2 a2_2, forgR a0_4 a1_8 a2_0, 0) else some (false, false, false, u)) else some (false, false, false, t)
theorem modes_Of.calls (k : Nat) (a0_0 : Bool) (a0_1 : Bool) (a0_2 : Bool) (a0_3 : Bool) (a0_4 : Bool) (a0_5 : Bool) (a0_6 : Int) (A0_7 : Option Addr) (c0_7 : Nat) (l0_7 : List ByteArray) (A0_8 : Option Addr) (c0_8 : Nat) (l0_8 : List (S58)) (A0_9 : Option Addr) (c0_9 : Nat) (l0_9 : List ByteArray) (a1_0 : ByteArray) (A1_1 : Option Addr) (c1_1 : Nat) (l1_1 : List ByteArray) (A1_2 : Option Addr) (c1_2 : Nat) (l1_2 : List ByteArray) (a1_3 : Bool) (a1_4 : ByteArray) (a1_5 : ByteArray) (a1_6 : Bool) (a1_7 : Bool) (a1_8 : Bool) (a1_9 : Bool) (a2_0 : Bool) (a2_1 : Bool) (a2_2 : Bool) (r1 : Bool) (r2 : Bool) (r3 : Bool) (r4 : Int) (w : World) (hr0_7 : Kd.C Kd.string w A0_7 l0_7.length l0_7) (hc0_7 : l0_7.length ≤ c0_7) (hr0_8 : Kd.C k58 w A0_8 l0_8.length l0_8) (hc0_8 : l0_8.length ≤ c0_8) (hr0_9 : Kd.C Kd.string w A0_9 l0_9.length l0_9) (hc0_9 : l0_9.length ≤ c0_9) (hr1_1 : Kd.C Kd.string w A1_1 l1_1.length l1_1) (hc1_1 : l1_1.length ≤ c1_1) (hr1_2 : Kd.C Kd.string w A1_2 l1_2.length l1_2) (hc1_2 : l1_2.length ≤ c1_2) (h : modes_Of.f k a0_0 a0_1 a0_2 a0_3 a0_4 a0_5 a0_6 l0_7 l0_8 l0_9 a1_0 l1_1 l1_2 a1_3 a1_4 a1_5 a1_6 a1_7 a1_8 a1_9 a2_0 a2_1 a2_2 = some (r1, r2, r3, r4)) :
    Calls Try.prog 6 #[.agg #[.bool a0_0, .bool a0_1, .bool a0_2, .bool a0_3, .bool a0_4, .bool a0_5, .int .i64 a0_6, .slice A0_7 l0_7.length c0_7, .slice A0_8 l0_8.length c0_8, .slice A0_9 l0_9.length c0_9], .agg #[.string a1_0, .slice A1_1 l1_1.length c1_1, .slice A1_2 l1_2.length c1_2, .bool a1_3, .string a1_4, .string a1_5, .bool a1_6, .bool a1_7, .bool a1_8, .bool a1_9], .agg #[.bool a2_0, .bool a2_1, .bool a2_2]] w fun e w' => e = .returned (.tuple #[.agg #[.bool r1, .bool r2, .bool r3], .int .i64 r4]) ∧ Below w.heap.size w w' := by
  unfold modes_Of.f at h
  obtain ⟨t, ht, h⟩ := Option.bind_eq_some_iff.1 h
  by_cases h0 : t = 0
  · subst h0
    rw [if_pos rfl] at h
    obtain ⟨u, hu, h⟩ := Option.bind_eq_some_iff.1 h
    by_cases h1 : u = 0
    · subst h1
      rw [if_pos rfl] at h
      have hh := Option.some.inj h
      simp only [Prod.mk.injEq] at hh
      obtain ⟨rfl, rfl, rfl, rfl⟩ := hh
      exact modes_Of.good k a0_0 a0_1 a0_2 a0_3 a0_4 a0_5 a0_6 A0_7 c0_7 l0_7 A0_8 c0_8 l0_8 A0_9 c0_9 l0_9 a1_0 A1_1 c1_1 l1_1 A1_2 c1_2 l1_2 a1_3 a1_4 a1_5 a1_6 a1_7 a1_8 a1_9 a2_0 a2_1 a2_2 w hr0_7 hc0_7 hr0_8 hc0_8 hr0_9 hc0_9 hr1_1 hc1_1 hr1_2 hc1_2 ht hu
    · rw [if_neg h1] at h
      have h2 := Option.some.inj h
      simp only [Prod.mk.injEq] at h2
      obtain ⟨rfl, rfl, rfl, rfl⟩ := h2
      exact modes_Of.bad1 k a0_0 a0_1 a0_2 a0_3 a0_4 a0_5 a0_6 A0_7 c0_7 l0_7 A0_8 c0_8 l0_8 A0_9 c0_9 l0_9 a1_0 A1_1 c1_1 l1_1 A1_2 c1_2 l1_2 a1_3 a1_4 a1_5 a1_6 a1_7 a1_8 a1_9 a2_0 a2_1 a2_2 w hr0_7 hc0_7 hr0_8 hc0_8 hr0_9 hc0_9 hr1_1 hc1_1 hr1_2 hc1_2 ht _ hu h1
  · rw [if_neg h0] at h
    have h2 := Option.some.inj h
    simp only [Prod.mk.injEq] at h2
    obtain ⟨rfl, rfl, rfl, rfl⟩ := h2
    exact modes_Of.bad0 k a0_0 a0_1 a0_2 a0_3 a0_4 a0_5 a0_6 A0_7 c0_7 l0_7 A0_8 c0_8 l0_8 A0_9 c0_9 l0_9 a1_0 A1_1 c1_1 l1_1 A1_2 c1_2 l1_2 a1_3 a1_4 a1_5 a1_6 a1_7 a1_8 a1_9 a2_0 a2_1 a2_2 w hr0_7 hc0_7 hr0_8 hc0_8 hr0_9 hc0_9 hr1_1 hc1_1 hr1_2 hc1_2 _ ht h0
theorem modes_Of.mono : ∀ a0 a1 a2 a3 a4 a5 a6 a7 a8 a9 b0 b1 b2 b3 b4 b5 b6 b7 b8 b9 c0 c1 c2 k, LeO (modes_Of.f k a0 a1 a2 a3 a4 a5 a6 a7 a8 a9 b0 b1 b2 b3 b4 b5 b6 b7 b8 b9 c0 c1 c2) (modes_Of.f (k + 1) a0 a1 a2 a3 a4 a5 a6 a7 a8 a9 b0 b1 b2 b3 b4 b5 b6 b7 b8 b9 c0 c1 c2) := by
  intro a0 a1 a2 a3 a4 a5 a6 a7 a8 a9 b0 b1 b2 b3 b4 b5 b6 b7 b8 b9 c0 c1 c2 k r h
  unfold modes_Of.f at h ⊢
  obtain ⟨t, ht, h⟩ := Option.bind_eq_some_iff.1 h
  rw [modes_Check.mono _ _ _ _ _ _ _ _ _ _ k t ht, Option.bind_some]
  by_cases h0 : t = 0
  · rw [if_pos h0] at h ⊢
    obtain ⟨u, hu, h⟩ := Option.bind_eq_some_iff.1 h
    rw [modes_alone.mono _ _ _ _ _ _ _ _ _ _ k u hu, Option.bind_some]
    exact h
  · rw [if_neg h0] at h ⊢
    exact h

end Go.Proofs.Ytmmjbobicnmilaa.P
