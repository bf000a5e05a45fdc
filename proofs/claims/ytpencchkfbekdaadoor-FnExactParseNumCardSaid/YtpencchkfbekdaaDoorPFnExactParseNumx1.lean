-- The functions of a law as plain Lean functions, each with its contract: written by a program of this session.
import Derived.Test.YtpencchkfbekdaaDoorPFnExactParseNumx0
namespace Go.Proofs.YtpencchkfbekdaaDoor.PFnExactParseNum
open Go.RowKit Go.Proofs.YtpencchkfbekdaaDoorW.PrintWords Go.Proofs.YtpencchkfbekdaaDoorW.PrintLast Go.Proofs.YtpencchkfbekdaaDoorW.PrintMore
attribute [local go_sem] max2_int min2_int max_two min_two max_three min_three max_four min_four   -- for this text's walks alone
set_option linter.unusedVariables false
set_option linter.unusedSimpArgs false

/-! ### spec_l1In: function 33 -/
def spec_l1In.f (a0 : Int) (a1 : Int) (a2 : Int) : Option (Bool) := if a0 ≥ a1 then (some (decide (a0 ≤ a2))) else (some false)
set_option maxHeartbeats 8000000 in
set_option maxRecDepth 100000 in
theorem spec_l1In.calls (a0 : Int) (a1 : Int) (a2 : Int) (r : Bool) (w : World) (h : spec_l1In.f a0 a1 a2 = some r) :
    Calls Tryd.prog 33 #[.int .i64 a0, .int .i64 a1, .int .i64 a2] w fun e w' => e = .returned (.bool r) ∧ Drawn0 w w' := by
  have H : (if a0 ≥ a1 then (some (decide (a0 ≤ a2))) else (some false)) = some r := h
  clear h
  by_cases c4 : a0 ≥ a1
  · rw [if_pos c4] at H
    have c4b0 : decide (a1 ≤ a0) = true := decide_eq_true c4
    clear c4
    obtain rfl := Option.some.inj H
    go_enter Tryd.func33,Tryd.ntmps33
    go_wp2
    go_ret
    exact ⟨by first|rfl|(simp;done)|(simp [*];done),by repeat (first|exact Drawn0.refl _|apply Drawn0.step)⟩
  · rw [if_neg c4] at H
    have c4b0 : decide (a1 ≤ a0) = false := decide_eq_false c4
    clear c4
    obtain rfl := Option.some.inj H
    go_enter Tryd.func33,Tryd.ntmps33
    go_wp2
    go_ret
    exact ⟨by first|rfl|(simp;done)|(simp [*];done),by repeat (first|exact Drawn0.refl _|apply Drawn0.step)⟩

/-! ### spec_ParseNum: function 11 -/
mutual
def spec_ParseNum.l0 : Nat → ByteArray → Int → Int → Option (Int × Bool)
 |0,_,_,_ => none
 |k + 1,x0,x4,x5 => if x5 < (x0.size : Int) then (spec_ParseNum.j1 k x0 x4 x5 (decide (x5 < 11))) else (spec_ParseNum.j1 k x0 x4 x5 false)
def spec_ParseNum.j1 : Nat → ByteArray → Int → Int → Bool → Option (Int × Bool)
 |0,_,_,_,_ => none
 |k + 1,x0,x4,x5,x13 => if x13 = true then (if 0 ≤ x5 then (if x5 < (x0.size : Int) then ((spec_l1In.f (wrap64 (bt x0 x5)) 48 57).bind fun t101 => (if t101 = true then (spec_ParseNum.l0 k x0 (wrap64 ((wrap64 (x4 * 10)) + (((bt x0 x5) - 48) % 256))) (wrap64 (x5 + 1))) else (some (0,false)))) else (none)) else (none)) else ((spec_l1In.f (x0.size : Int) 1 10).bind fun t102 => (if t102 = true then (if (x0.size : Int) > 1 then (if 0 < (x0.size : Int) then (if (bt x0 0) = 48 then (some (0,false)) else (if x4 > 2147483647 then (some (0,false)) else (some (x4,true)))) else (none)) else (if x4 > 2147483647 then (some (0,false)) else (some (x4,true)))) else (some (0,false))))
end
def spec_ParseNum.f (k : Nat) (a0 : ByteArray) : Option (Int × Bool) := spec_ParseNum.l0 k a0 0 0
theorem spec_ParseNum.mono_l : ∀ k, (∀ y0 y1 y2, LeO (spec_ParseNum.l0 k y0 y1 y2) (spec_ParseNum.l0 (k + 1) y0 y1 y2)) ∧ (∀ y0 y1 y2 y3, LeO (spec_ParseNum.j1 k y0 y1 y2 y3) (spec_ParseNum.j1 (k + 1) y0 y1 y2 y3))
  | 0 => ⟨fun _ _ _ r h => by simp [spec_ParseNum.l0] at h, fun _ _ _ _ r h => by simp [spec_ParseNum.j1] at h⟩
  | k + 1 => by
    obtain ⟨ih0, ih1⟩ := spec_ParseNum.mono_l k
    refine ⟨?_, ?_⟩
    · intro y0 y1 y2
      unfold spec_ParseNum.l0
      repeat' first
      | (with_reducible exact ih0 _ _ _)
      | (with_reducible exact ih1 _ _ _ _)
      | (with_reducible exact LeO.refl _)
      | (with_reducible exact LeO.none _)
      | (with_reducible refine LeO.ite ?_ ?_)
      | (with_reducible refine LeO.bind ?_ (fun _ => ?_))
      | exact ih0 _ _ _
      | exact ih1 _ _ _ _
      | exact LeO.none _
      | refine LeO.ite ?_ ?_
      | refine LeO.bind ?_ (fun _ => ?_)
    · intro y0 y1 y2 y3
      unfold spec_ParseNum.j1
      repeat' first
      | (with_reducible exact ih0 _ _ _)
      | (with_reducible exact ih1 _ _ _ _)
      | (with_reducible exact LeO.refl _)
      | (with_reducible exact LeO.none _)
      | (with_reducible refine LeO.ite ?_ ?_)
      | (with_reducible refine LeO.bind ?_ (fun _ => ?_))
      | exact ih0 _ _ _
      | exact ih1 _ _ _ _
      | exact LeO.none _
      | refine LeO.ite ?_ ?_
      | refine LeO.bind ?_ (fun _ => ?_)
theorem spec_ParseNum.mono : ∀ a0 k, LeO (spec_ParseNum.f k a0) (spec_ParseNum.f (k + 1) a0) := by
  intro a0 k
  obtain ⟨ih0, ih1⟩ := spec_ParseNum.mono_l k
  unfold spec_ParseNum.f
  repeat' first
      | (with_reducible exact ih0 _ _ _)
      | (with_reducible exact ih1 _ _ _ _)
      | (with_reducible exact LeO.refl _)
      | (with_reducible exact LeO.none _)
      | (with_reducible refine LeO.ite ?_ ?_)
      | (with_reducible refine LeO.bind ?_ (fun _ => ?_))
      | exact ih0 _ _ _
      | exact ih1 _ _ _ _
      | exact LeO.none _
      | refine LeO.ite ?_ ?_
      | refine LeO.bind ?_ (fun _ => ?_)
set_option maxHeartbeats 8000000 in
set_option maxRecDepth 100000 in
theorem spec_ParseNum.calls (k : Nat) (a0 : ByteArray) (r1 : Int) (r2 : Bool) (w : World) (h : spec_ParseNum.f k a0 = some (r1, r2)) :
    Calls Tryd.prog 11 #[.string a0] w fun e w' => e = .returned (.tuple #[.int .i64 r1, .bool r2]) ∧ Drawn0 w w' := by
  have H : (spec_ParseNum.l0 k a0 0 0) = some (r1,r2) := h
  clear h
  have H' := mk0 H
  clear H
  go_enter Tryd.func11,Tryd.ntmps11
  go_wp2
  go_loopg [4,5] k (fun kq v4 v5 w' => ∃ (x4_1 : Int) (x5_1 : Int),v4 = .int .i64 x4_1 ∧ v5 = .int .i64 x5_1 ∧ Aside0 (spec_ParseNum.l0 kq a0 x4_1 x5_1 = some (r1,r2)) ∧ Aside0 (kq ≤ k) ∧ Drawn0 w w')
  case atStart => exact ⟨(0),(0),(by first|rfl|(simp;done)|(simp [*];done)),(by first|rfl|(simp;done)|(simp [*];done)),H',⟨Nat.le_refl _⟩,by repeat (first|exact Drawn0.refl _|apply Drawn0.step)⟩
  case round =>
    clear H'
    try clear c1
    obtain ⟨x4_1,x5_1,rfl,rfl,HA,HK1,⟨m1,rfl⟩⟩ := hrel
    cases gk with
   |zero => exact absurd HA.out (by simp [spec_ParseNum.l0])
   |succ k1 =>
      have H := HA.out
      clear HA
      simp only [spec_ParseNum.l0] at H
      have HC2 := mk0 H
      clear H
      go_upto_region 3 with (fail)
      go_cut [13] (fun v13 wc => ∃ (kq : Nat) (x13_1 : Bool),v13 = .bool x13_1 ∧ Aside0 (spec_ParseNum.j1 kq a0 x4_1 x5_1 x13_1 = some (r1,r2)) ∧ Aside0 (kq ≤ k1) ∧ Drawn0 w wc)
      case first =>
        have H := HC2.out
        clear HC2
        by_cases c3 : x5_1 < (a0.size : Int)
        · rw [if_pos c3] at H
          have c3b0 : decide (x5_1 < (a0.size : Int)) = true := decide_eq_true c3
          clear c3
          (first|rw [c3b0]|(simp only [i64_w,i32_w];rw [c3b0])|skip)
          have H' := mk0 H
          clear H
          go_wp2
          go_meet
          case rel => exact ⟨_,(decide (x5_1 < 11)),(by first|rfl|(simp;done)|(simp [*];done)),H',⟨by have := HK1.out;first|omega|exact Nat.le_refl _⟩,by repeat (first|exact Drawn0.refl _|apply Drawn0.step)⟩
        · rw [if_neg c3] at H
          have c3b0 : decide (x5_1 < (a0.size : Int)) = false := decide_eq_false c3
          clear c3
          (first|rw [c3b0]|(simp only [i64_w,i32_w];rw [c3b0])|skip)
          have H' := mk0 H
          clear H
          go_wp2
          go_meet
          case rel => exact ⟨_,(false),(by first|rfl|(simp;done)|(simp [*];done)),H',⟨by have := HK1.out;first|omega|exact Nat.le_refl _⟩,by repeat (first|exact Drawn0.refl _|apply Drawn0.step)⟩
      case rest =>
        clear HC2
        try clear c1
        try clear p2
        try clear c3
        try clear c3b0
        obtain ⟨kq,x13_1,rfl,HA,HJ1,⟨mc1,rfl⟩⟩ := hcut
        cases kq with
       |zero => exact absurd HA.out (by simp [spec_ParseNum.j1])
       |succ kj1 =>
          have H := HA.out
          clear HA
          simp only [spec_ParseNum.j1] at H
          by_cases c4 : x13_1 = true
          · subst c4
            rw [if_pos rfl] at H
            by_cases c5 : 0 ≤ x5_1
            · rw [if_pos c5] at H
              have c5b0 : decide (0 ≤ x5_1) = true := decide_eq_true c5
              clear c5
              by_cases c6 : x5_1 < (a0.size : Int)
              · rw [if_pos c6] at H
                have c6b0 : decide (x5_1 < (a0.size : Int)) = true := decide_eq_true c6
                clear c6
                obtain ⟨t101,A8,H⟩ := bindA H
                by_cases c9 : t101 = true
                · subst c9
                  rw [if_pos rfl] at H
                  have H' := mk0 H
                  clear H
                  have p7 : 0 ≤ (x5_1 : Int) := of_decide_eq_true (by first|(with_reducible assumption)|assumption)
                  have q7 : x5_1 < (a0.size : Int) := of_decide_eq_true (by first|(with_reducible assumption)|assumption)
                  have hx7 := bt_at a0 x5_1
                  replace p7 := eq_true p7
                  replace q7 := eq_true q7
                  go_wp2_with (first|((with_reducible refine gate_callee (f := 33) rfl ?_);refine goesL_ (some 20) rfl rfl Tryd.func33 (by kernel_rfl) rfl #[.int .i64 (wrap64 (bt a0 x5_1)),.int .i64 48,.int .i64 57] rfl (by (try simp only [List.map_toArray,List.map_cons,List.map_nil]);first|done|rfl) ?_;(with_reducible refine (spec_l1In.calls (wrap64 (bt a0 x5_1)) 48 57 true _ A8.out).mono ?_);rintro e w' ⟨rfl,⟨nd,rfl⟩⟩;refine ⟨_,rfl,?_⟩;have p10 : 0 ≤ (x5_1 : Int) := of_decide_eq_true (by first|(with_reducible assumption)|assumption);have q10 : x5_1 < (a0.size : Int) := of_decide_eq_true (by first|(with_reducible assumption)|assumption);have hx10 := bt_at a0 x5_1;replace p10 := eq_true p10;replace q10 := eq_true q10))
                  go_roundg kj1
                  case measure => have := HK1.out;have := HJ1.out;omega
                  case rel => exact ⟨(wrap64 ((wrap64 (x4_1 * 10)) + (((bt a0 x5_1) - 48) % 256))),(wrap64 (x5_1 + 1)),(by first|rfl|(simp;done)|(simp [*];done)),(by first|rfl|(simp;done)|(simp [*];done)),H',⟨by have := HK1.out;have := HJ1.out;omega⟩,by repeat (first|exact Drawn0.refl _|apply Drawn0.step)⟩
                · replace c9 := Bool.eq_false_iff.mpr c9
                  subst c9
                  rw [if_neg (show ¬ (false = true) by decide)] at H
                  simp only [Option.some.injEq,Prod.mk.injEq] at H
                  obtain ⟨rfl,rfl⟩ := H
                  have p7 : 0 ≤ (x5_1 : Int) := of_decide_eq_true (by first|(with_reducible assumption)|assumption)
                  have q7 : x5_1 < (a0.size : Int) := of_decide_eq_true (by first|(with_reducible assumption)|assumption)
                  have hx7 := bt_at a0 x5_1
                  replace p7 := eq_true p7
                  replace q7 := eq_true q7
                  go_wp2_with (first|((with_reducible refine gate_callee (f := 33) rfl ?_);refine goesL_ (some 20) rfl rfl Tryd.func33 (by kernel_rfl) rfl #[.int .i64 (wrap64 (bt a0 x5_1)),.int .i64 48,.int .i64 57] rfl (by (try simp only [List.map_toArray,List.map_cons,List.map_nil]);first|done|rfl) ?_;(with_reducible refine (spec_l1In.calls (wrap64 (bt a0 x5_1)) 48 57 false _ A8.out).mono ?_);rintro e w' ⟨rfl,⟨nd,rfl⟩⟩;refine ⟨_,rfl,?_⟩))
                  go_ret2
                  exact ⟨by first|rfl|(simp;done)|(simp [*];done),by repeat (first|exact Drawn0.refl _|apply Drawn0.step)⟩
              · rw [if_neg c6] at H
                exact absurd H (by simp)
            · rw [if_neg c5] at H
              exact absurd H (by simp)
          · replace c4 := Bool.eq_false_iff.mpr c4
            subst c4
            rw [if_neg (show ¬ (false = true) by decide)] at H
            obtain ⟨t102,A11,H⟩ := bindA H
            by_cases c12 : t102 = true
            · subst c12
              rw [if_pos rfl] at H
              by_cases c13 : (a0.size : Int) > 1
              · rw [if_pos c13] at H
                have c13b0 : decide (1 < (a0.size : Int)) = true := decide_eq_true c13
                have c13b1 : decide (1 < a0.size) = true := decide_eq_true (by omega)
                clear c13
                by_cases c14 : 0 < (a0.size : Int)
                · rw [if_pos c14] at H
                  have c14b0 : decide (0 < (a0.size : Int)) = true := decide_eq_true c14
                  have c14b1 : decide (0 < a0.size) = true := decide_eq_true (by omega)
                  clear c14
                  by_cases c16 : (bt a0 0) = 48
                  · rw [if_pos c16] at H
                    have c16b0 : ((bt a0 0) == 48) = true := beq_iff_eq.mpr c16
                    have c16b1 : ((bt a0 0) != 48) = false := bne_eq_false_iff_eq.mpr c16
                    clear c16
                    simp only [Option.some.injEq,Prod.mk.injEq] at H
                    obtain ⟨rfl,rfl⟩ := H
                    go_wp2_with (first|((with_reducible refine gate_callee (f := 33) rfl ?_);refine goesL_ (some 32) rfl rfl Tryd.func33 (by kernel_rfl) rfl #[.int .i64 (a0.size : Int),.int .i64 1,.int .i64 10] rfl (by (try simp only [List.map_toArray,List.map_cons,List.map_nil]);first|done|rfl) ?_;(with_reducible refine (spec_l1In.calls (a0.size : Int) 1 10 true _ A11.out).mono ?_);rintro e w' ⟨rfl,⟨nd,rfl⟩⟩;refine ⟨_,rfl,?_⟩;have p15 : 0 ≤ (0 : Int) := (by omega);have q15 : 0 < a0.size := (by have : (0 : Int) < (a0.size : Int) := of_decide_eq_true (by first|(with_reducible assumption)|assumption);omega);have hx15 : ∀ h : 0 < a0.size,((a0[0]'h).toNat : Int) = bt a0 0 := bt_at a0 0;clear p15;have qi15 : (0 < (a0.size : Int)) = True := eq_true (of_decide_eq_true (by first|(with_reducible assumption)|assumption));replace q15 := eq_true q15))
                    go_ret2
                    exact ⟨by first|rfl|(simp;done)|(simp [*];done),by repeat (first|exact Drawn0.refl _|apply Drawn0.step)⟩
                  · rw [if_neg c16] at H
                    have c16b0 : ((bt a0 0) == 48) = false := beq_eq_false_iff_ne.mpr c16
                    have c16b1 : ((bt a0 0) != 48) = true := bne_iff_ne.mpr c16
                    by_cases c17 : x4_1 > 2147483647
                    · rw [if_pos c17] at H
                      have c17b0 : decide (2147483647 < x4_1) = true := decide_eq_true c17
                      clear c17
                      simp only [Option.some.injEq,Prod.mk.injEq] at H
                      obtain ⟨rfl,rfl⟩ := H
                      go_wp2_with (first|((with_reducible refine gate_callee (f := 33) rfl ?_);refine goesL_ (some 32) rfl rfl Tryd.func33 (by kernel_rfl) rfl #[.int .i64 (a0.size : Int),.int .i64 1,.int .i64 10] rfl (by (try simp only [List.map_toArray,List.map_cons,List.map_nil]);first|done|rfl) ?_;(with_reducible refine (spec_l1In.calls (a0.size : Int) 1 10 true _ A11.out).mono ?_);rintro e w' ⟨rfl,⟨nd,rfl⟩⟩;refine ⟨_,rfl,?_⟩;have p15 : 0 ≤ (0 : Int) := (by omega);have q15 : 0 < a0.size := (by have : (0 : Int) < (a0.size : Int) := of_decide_eq_true (by first|(with_reducible assumption)|assumption);omega);have hx15 : ∀ h : 0 < a0.size,((a0[0]'h).toNat : Int) = bt a0 0 := bt_at a0 0;clear p15;have qi15 : (0 < (a0.size : Int)) = True := eq_true (of_decide_eq_true (by first|(with_reducible assumption)|assumption));replace q15 := eq_true q15))
                      go_ret2
                      exact ⟨by first|rfl|(simp;done)|(simp [*];done),by repeat (first|exact Drawn0.refl _|apply Drawn0.step)⟩
                    · rw [if_neg c17] at H
                      have c17b0 : decide (2147483647 < x4_1) = false := decide_eq_false c17
                      clear c17
                      simp only [Option.some.injEq,Prod.mk.injEq] at H
                      obtain ⟨rfl,rfl⟩ := H
                      go_wp2_with (first|((with_reducible refine gate_callee (f := 33) rfl ?_);refine goesL_ (some 32) rfl rfl Tryd.func33 (by kernel_rfl) rfl #[.int .i64 (a0.size : Int),.int .i64 1,.int .i64 10] rfl (by (try simp only [List.map_toArray,List.map_cons,List.map_nil]);first|done|rfl) ?_;(with_reducible refine (spec_l1In.calls (a0.size : Int) 1 10 true _ A11.out).mono ?_);rintro e w' ⟨rfl,⟨nd,rfl⟩⟩;refine ⟨_,rfl,?_⟩;have p15 : 0 ≤ (0 : Int) := (by omega);have q15 : 0 < a0.size := (by have : (0 : Int) < (a0.size : Int) := of_decide_eq_true (by first|(with_reducible assumption)|assumption);omega);have hx15 : ∀ h : 0 < a0.size,((a0[0]'h).toNat : Int) = bt a0 0 := bt_at a0 0;clear p15;have qi15 : (0 < (a0.size : Int)) = True := eq_true (of_decide_eq_true (by first|(with_reducible assumption)|assumption));replace q15 := eq_true q15))
                      go_ret2
                      exact ⟨by first|rfl|(simp;done)|(simp [*];done),by repeat (first|exact Drawn0.refl _|apply Drawn0.step)⟩
                · rw [if_neg c14] at H
                  exact absurd H (by simp)
              · rw [if_neg c13] at H
                have c13b0 : decide (1 < (a0.size : Int)) = false := decide_eq_false c13
                have c13b1 : decide (1 < a0.size) = false := decide_eq_false (by omega)
                clear c13
                by_cases c18 : x4_1 > 2147483647
                · rw [if_pos c18] at H
                  have c18b0 : decide (2147483647 < x4_1) = true := decide_eq_true c18
                  clear c18
                  simp only [Option.some.injEq,Prod.mk.injEq] at H
                  obtain ⟨rfl,rfl⟩ := H
                  go_wp2_with (first|((with_reducible refine gate_callee (f := 33) rfl ?_);refine goesL_ (some 32) rfl rfl Tryd.func33 (by kernel_rfl) rfl #[.int .i64 (a0.size : Int),.int .i64 1,.int .i64 10] rfl (by (try simp only [List.map_toArray,List.map_cons,List.map_nil]);first|done|rfl) ?_;(with_reducible refine (spec_l1In.calls (a0.size : Int) 1 10 true _ A11.out).mono ?_);rintro e w' ⟨rfl,⟨nd,rfl⟩⟩;refine ⟨_,rfl,?_⟩))
                  go_ret2
                  exact ⟨by first|rfl|(simp;done)|(simp [*];done),by repeat (first|exact Drawn0.refl _|apply Drawn0.step)⟩
                · rw [if_neg c18] at H
                  have c18b0 : decide (2147483647 < x4_1) = false := decide_eq_false c18
                  clear c18
                  simp only [Option.some.injEq,Prod.mk.injEq] at H
                  obtain ⟨rfl,rfl⟩ := H
                  go_wp2_with (first|((with_reducible refine gate_callee (f := 33) rfl ?_);refine goesL_ (some 32) rfl rfl Tryd.func33 (by kernel_rfl) rfl #[.int .i64 (a0.size : Int),.int .i64 1,.int .i64 10] rfl (by (try simp only [List.map_toArray,List.map_cons,List.map_nil]);first|done|rfl) ?_;(with_reducible refine (spec_l1In.calls (a0.size : Int) 1 10 true _ A11.out).mono ?_);rintro e w' ⟨rfl,⟨nd,rfl⟩⟩;refine ⟨_,rfl,?_⟩))
                  go_ret2
                  exact ⟨by first|rfl|(simp;done)|(simp [*];done),by repeat (first|exact Drawn0.refl _|apply Drawn0.step)⟩
            · replace c12 := Bool.eq_false_iff.mpr c12
              subst c12
              rw [if_neg (show ¬ (false = true) by decide)] at H
              simp only [Option.some.injEq,Prod.mk.injEq] at H
              obtain ⟨rfl,rfl⟩ := H
              go_wp2_with (first|((with_reducible refine gate_callee (f := 33) rfl ?_);refine goesL_ (some 32) rfl rfl Tryd.func33 (by kernel_rfl) rfl #[.int .i64 (a0.size : Int),.int .i64 1,.int .i64 10] rfl (by (try simp only [List.map_toArray,List.map_cons,List.map_nil]);first|done|rfl) ?_;(with_reducible refine (spec_l1In.calls (a0.size : Int) 1 10 false _ A11.out).mono ?_);rintro e w' ⟨rfl,⟨nd,rfl⟩⟩;refine ⟨_,rfl,?_⟩))
              go_ret2
              exact ⟨by first|rfl|(simp;done)|(simp [*];done),by repeat (first|exact Drawn0.refl _|apply Drawn0.step)⟩

def strconv_Itoa_32.f (a0 : Int) : Option ByteArray := if -9223372036854775808 ≤ a0 then (if a0 ≤ 9223372036854775807 then some (⟨(Go.Lib.itoa a0).toArray⟩ : ByteArray) else none) else none
theorem strconv_Itoa_32.calls (a0 : Int) (r : ByteArray) (w : World) (hT : TabW w) (h : strconv_Itoa_32.f a0 = some r) :
    Calls Tryd.prog 32 #[.int .i64 a0] w fun e w' => e = .returned (.string r) ∧ Below w.heap.size w w' := by
  unfold strconv_Itoa_32.f at h
  by_cases h0 : -9223372036854775808 ≤ a0
  · rw [if_pos h0] at h
    by_cases h1 : a0 ≤ 9223372036854775807
    · rw [if_pos h1] at h
      obtain rfl := Option.some.inj h
      exact itoa_calls a0 w hT h0 h1
    · rw [if_neg h1] at h
      cases h
  · rw [if_neg h0] at h
    cases h

/-! ### impl_NumText: function 10 -/
def impl_NumText.f (a0 : Int) : Option (ByteArray) := (strconv_Itoa_32.f a0).bind fun t103 => (some t103)
set_option maxHeartbeats 8000000 in
set_option maxRecDepth 100000 in
theorem impl_NumText.calls (a0 : Int) (r : ByteArray) (w : World) (hT : TabW w) (h : impl_NumText.f a0 = some r) :
    Calls Tryd.prog 10 #[.int .i64 a0] w fun e w' => e = .returned (.string r) ∧ Below w.heap.size w w' := by
  have HB := mk0 (Below.refl w.heap.size w)
  have HT := mk0 hT
  clear hT
  have H : ((strconv_Itoa_32.f a0).bind fun t103 => (some t103)) = some r := h
  clear h
  obtain ⟨t103,A2,H⟩ := bindA H
  obtain rfl := Option.some.inj H
  go_enter Tryd.func10,Tryd.ntmps10
  go_wp2_with (first|((with_reducible refine gate_callee (f := 32) rfl ?_);refine goesL_ (some 4) rfl rfl Tryd.func32 (by kernel_rfl) rfl #[.int .i64 a0] rfl (by (try simp only [List.map_toArray,List.map_cons,List.map_nil]);first|done|rfl) ?_;(with_reducible refine (strconv_Itoa_32.calls (hT := ?hT_) a0 t103 _ A2.out).mono ?_);(case hT_ => exact tabB HT.out (by repeat (first|(with_reducible first|exact HB.out|apply bA|apply bN|apply bD)|exact HB.out)));rintro e w3 ⟨rfl,hb⟩;refine ⟨_,rfl,?_⟩;have n0_ := mk0 (below_step (by repeat (first|(with_reducible first|exact HB.out|apply bA|apply bN|apply bD)|exact HB.out)) hb);clear HB;have HB := n0_;clear n0_;(try clear hb);(try clear hb2);(try clear hk);(try clear hi)))
  go_ret
  exact ⟨by first|rfl|(simp [errW_none,errW_some] <;> rfl)|(simp [*,errW_none,errW_some] <;> rfl),by repeat (first|(with_reducible first|exact HB.out|apply bA|apply bN|apply bD)|exact HB.out)⟩

/-! ### impl_inRange: function 34 -/
def impl_inRange.f (a0 : Int) (a1 : Int) (a2 : Int) : Option (Bool) := if a0 ≥ a1 then (some (decide (a0 ≤ a2))) else (some false)
set_option maxHeartbeats 8000000 in
set_option maxRecDepth 100000 in
theorem impl_inRange.calls (a0 : Int) (a1 : Int) (a2 : Int) (r : Bool) (w : World) (h : impl_inRange.f a0 a1 a2 = some r) :
    Calls Tryd.prog 34 #[.int .i64 a0, .int .i64 a1, .int .i64 a2] w fun e w' => e = .returned (.bool r) ∧ Drawn0 w w' := by
  have H : (if a0 ≥ a1 then (some (decide (a0 ≤ a2))) else (some false)) = some r := h
  clear h
  by_cases c4 : a0 ≥ a1
  · rw [if_pos c4] at H
    have c4b0 : decide (a1 ≤ a0) = true := decide_eq_true c4
    clear c4
    obtain rfl := Option.some.inj H
    go_enter Tryd.func34,Tryd.ntmps34
    go_wp2
    go_ret
    exact ⟨by first|rfl|(simp;done)|(simp [*];done),by repeat (first|exact Drawn0.refl _|apply Drawn0.step)⟩
  · rw [if_neg c4] at H
    have c4b0 : decide (a1 ≤ a0) = false := decide_eq_false c4
    clear c4
    obtain rfl := Option.some.inj H
    go_enter Tryd.func34,Tryd.ntmps34
    go_wp2
    go_ret
    exact ⟨by first|rfl|(simp;done)|(simp [*];done),by repeat (first|exact Drawn0.refl _|apply Drawn0.step)⟩

/-! ### impl_isWord: function 35 -/
def impl_isWord.f (a0 : Int) : Option (Bool) := (impl_inRange.f a0 (-2147483648) 2147483647).bind fun t104 => (some t104)
set_option maxHeartbeats 8000000 in
set_option maxRecDepth 100000 in
theorem impl_isWord.calls (a0 : Int) (r : Bool) (w : World) (h : impl_isWord.f a0 = some r) :
    Calls Tryd.prog 35 #[.int .i64 a0] w fun e w' => e = .returned (.bool r) ∧ Drawn0 w w' := by
  have H : ((impl_inRange.f a0 (-2147483648) 2147483647).bind fun t104 => (some t104)) = some r := h
  clear h
  obtain ⟨t104,A2,H⟩ := bindA H
  obtain rfl := Option.some.inj H
  go_enter Tryd.func35,Tryd.ntmps35
  go_wp2_with (first|((with_reducible refine gate_callee (f := 34) rfl ?_);refine goesL_ (some 4) rfl rfl Tryd.func34 (by kernel_rfl) rfl #[.int .i64 a0,.int .i64 (-2147483648),.int .i64 2147483647] rfl (by (try simp only [List.map_toArray,List.map_cons,List.map_nil]);first|done|rfl) ?_;(with_reducible refine (impl_inRange.calls a0 (-2147483648) 2147483647 t104 _ A2.out).mono ?_);rintro e w' ⟨rfl,⟨nd,rfl⟩⟩;refine ⟨_,rfl,?_⟩))
  go_ret
  exact ⟨by first|rfl|(simp;done)|(simp [*];done),by repeat (first|exact Drawn0.refl _|apply Drawn0.step)⟩

/-! ### impl_ParseNum: function 12 -/
def impl_ParseNum.l0 : Nat → ByteArray → Int → Int → Option (Int × Bool)
 |0,_,_,_ => none
 |k + 1,x0,x4,x5 => if x5 < (x0.size : Int) then (if 0 ≤ x5 then (if (bt x0 x5) < 48 then (some (0,false)) else (if (bt x0 x5) > 57 then (some (0,false)) else (impl_ParseNum.l0 k x0 (wrap64 ((wrap64 (x4 * 10)) + (((bt x0 x5) - 48) % 256))) (wrap64 (x5 + 1))))) else (none)) else ((impl_NumText.f x4).bind fun t106 => (if t106.toList = x0.toList then ((impl_isWord.f x4).bind fun t107 => (if t107 = true then (some (x4,true)) else (some (0,false)))) else (some (0,false))))
def impl_ParseNum.f (k : Nat) (a0 : ByteArray) : Option (Int × Bool) := (impl_inRange.f (a0.size : Int) 1 10).bind fun t105 => (if t105 = true then (impl_ParseNum.l0 k a0 0 0) else (some (0,false)))
theorem impl_ParseNum.mono_l : ∀ k, (∀ y0 y1 y2, LeO (impl_ParseNum.l0 k y0 y1 y2) (impl_ParseNum.l0 (k + 1) y0 y1 y2))
  | 0 => fun _ _ _ r h => by simp [impl_ParseNum.l0] at h
  | k + 1 => by
    have ih0 := impl_ParseNum.mono_l k
    · intro y0 y1 y2
      unfold impl_ParseNum.l0
      repeat' first
      | (with_reducible exact ih0 _ _ _)
      | (with_reducible exact LeO.refl _)
      | (with_reducible exact LeO.none _)
      | (with_reducible refine LeO.ite ?_ ?_)
      | (with_reducible refine LeO.bind ?_ (fun _ => ?_))
      | exact ih0 _ _ _
      | exact LeO.none _
      | refine LeO.ite ?_ ?_
      | refine LeO.bind ?_ (fun _ => ?_)
theorem impl_ParseNum.mono : ∀ a0 k, LeO (impl_ParseNum.f k a0) (impl_ParseNum.f (k + 1) a0) := by
  intro a0 k
  have ih0 := impl_ParseNum.mono_l k
  unfold impl_ParseNum.f
  repeat' first
      | (with_reducible exact ih0 _ _ _)
      | (with_reducible exact LeO.refl _)
      | (with_reducible exact LeO.none _)
      | (with_reducible refine LeO.ite ?_ ?_)
      | (with_reducible refine LeO.bind ?_ (fun _ => ?_))
      | exact ih0 _ _ _
      | exact LeO.none _
      | refine LeO.ite ?_ ?_
      | refine LeO.bind ?_ (fun _ => ?_)
set_option maxHeartbeats 8000000 in
set_option maxRecDepth 100000 in
theorem impl_ParseNum.calls (k : Nat) (a0 : ByteArray) (r1 : Int) (r2 : Bool) (w : World) (hT : TabW w) (h : impl_ParseNum.f k a0 = some (r1, r2)) :
    Calls Tryd.prog 12 #[.string a0] w fun e w' => e = .returned (.tuple #[.int .i64 r1, .bool r2]) ∧ Below w.heap.size w w' := by
  have HB := mk0 (Below.refl w.heap.size w)
  have HT := mk0 hT
  clear hT
  have H : ((impl_inRange.f (a0.size : Int) 1 10).bind fun t105 => (if t105 = true then (impl_ParseNum.l0 k a0 0 0) else (some (0,false)))) = some (r1,r2) := h
  clear h
  obtain ⟨t105,A2,H⟩ := bindA H
  by_cases c3 : t105 = true
  · subst c3
    rw [if_pos rfl] at H
    have H' := mk0 H
    clear H
    go_enter Tryd.func12,Tryd.ntmps12
    go_wp2_with (first|((with_reducible refine gate_callee (f := 34) rfl ?_);refine goesL_ (some 8) rfl rfl Tryd.func34 (by kernel_rfl) rfl #[.int .i64 (a0.size : Int),.int .i64 1,.int .i64 10] rfl (by (try simp only [List.map_toArray,List.map_cons,List.map_nil]);first|done|rfl) ?_;(with_reducible refine (impl_inRange.calls (a0.size : Int) 1 10 true _ A2.out).mono ?_);rintro e w' ⟨rfl,⟨nd,rfl⟩⟩;refine ⟨_,rfl,?_⟩))
    go_loopg [4,5] k (fun kq v4 v5 w' => ∃ (x4_1 : Int) (x5_1 : Int),v4 = .int .i64 x4_1 ∧ v5 = .int .i64 x5_1 ∧ Aside0 (impl_ParseNum.l0 kq a0 x4_1 x5_1 = some (r1,r2)) ∧ Aside0 (kq ≤ k) ∧ Aside0 (Below w.heap.size w w'))
    case atStart => exact ⟨(0),(0),(by first|rfl|(simp;done)|(simp [*];done)),(by first|rfl|(simp;done)|(simp [*];done)),H',⟨Nat.le_refl _⟩,⟨by repeat (first|(with_reducible first|exact HB.out|apply bA|apply bN|apply bD)|exact HB.out)⟩⟩
    case round =>
      clear H'
      try clear c1
      try clear p2
      try clear c3
      obtain ⟨x4_1,x5_1,rfl,rfl,HA,HK1,HB⟩ := hrel
      cases gk with
     |zero => exact absurd HA.out (by simp [impl_ParseNum.l0])
     |succ k1 =>
        have H := HA.out
        clear HA
        simp only [impl_ParseNum.l0] at H
        by_cases c4 : x5_1 < (a0.size : Int)
        · rw [if_pos c4] at H
          have c4b0 : decide (x5_1 < (a0.size : Int)) = true := decide_eq_true c4
          clear c4
          by_cases c5 : 0 ≤ x5_1
          · rw [if_pos c5] at H
            have c5b0 : decide (0 ≤ x5_1) = true := decide_eq_true c5
            clear c5
            by_cases c7 : (bt a0 x5_1) < 48
            · rw [if_pos c7] at H
              have c7b0 : decide ((bt a0 x5_1) < 48) = true := decide_eq_true c7
              clear c7
              simp only [Option.some.injEq,Prod.mk.injEq] at H
              obtain ⟨rfl,rfl⟩ := H
              have p6 : 0 ≤ (x5_1 : Int) := of_decide_eq_true (by first|(with_reducible assumption)|assumption)
              have q6 : x5_1 < (a0.size : Int) := of_decide_eq_true (by first|(with_reducible assumption)|assumption)
              have hx6 := bt_at a0 x5_1
              replace p6 := eq_true p6
              replace q6 := eq_true q6
              go_wp2
              go_ret2
              exact ⟨by first|rfl|(simp [errW_none,errW_some] <;> rfl)|(simp [*,errW_none,errW_some] <;> rfl),by repeat (first|(with_reducible first|exact HB.out|apply bA|apply bN|apply bD)|exact HB.out)⟩
            · rw [if_neg c7] at H
              have c7b0 : decide ((bt a0 x5_1) < 48) = false := decide_eq_false c7
              clear c7
              by_cases c9 : (bt a0 x5_1) > 57
              · rw [if_pos c9] at H
                have c9b0 : decide (57 < (bt a0 x5_1)) = true := decide_eq_true c9
                clear c9
                simp only [Option.some.injEq,Prod.mk.injEq] at H
                obtain ⟨rfl,rfl⟩ := H
                have p6 : 0 ≤ (x5_1 : Int) := of_decide_eq_true (by first|(with_reducible assumption)|assumption)
                have q6 : x5_1 < (a0.size : Int) := of_decide_eq_true (by first|(with_reducible assumption)|assumption)
                have hx6 := bt_at a0 x5_1
                replace p6 := eq_true p6
                replace q6 := eq_true q6
                have p8 : 0 ≤ (x5_1 : Int) := of_decide_eq_true (by first|(with_reducible assumption)|assumption)
                have q8 : x5_1 < (a0.size : Int) := of_decide_eq_true (by first|(with_reducible assumption)|assumption)
                have hx8 := bt_at a0 x5_1
                replace p8 := eq_true p8
                replace q8 := eq_true q8
                go_wp2
                go_ret2
                exact ⟨by first|rfl|(simp [errW_none,errW_some] <;> rfl)|(simp [*,errW_none,errW_some] <;> rfl),by repeat (first|(with_reducible first|exact HB.out|apply bA|apply bN|apply bD)|exact HB.out)⟩
              · rw [if_neg c9] at H
                have c9b0 : decide (57 < (bt a0 x5_1)) = false := decide_eq_false c9
                clear c9
                have H' := mk0 H
                clear H
                have p6 : 0 ≤ (x5_1 : Int) := of_decide_eq_true (by first|(with_reducible assumption)|assumption)
                have q6 : x5_1 < (a0.size : Int) := of_decide_eq_true (by first|(with_reducible assumption)|assumption)
                have hx6 := bt_at a0 x5_1
                replace p6 := eq_true p6
                replace q6 := eq_true q6
                have p8 : 0 ≤ (x5_1 : Int) := of_decide_eq_true (by first|(with_reducible assumption)|assumption)
                have q8 : x5_1 < (a0.size : Int) := of_decide_eq_true (by first|(with_reducible assumption)|assumption)
                have hx8 := bt_at a0 x5_1
                replace p8 := eq_true p8
                replace q8 := eq_true q8
                have p10 : 0 ≤ (x5_1 : Int) := of_decide_eq_true (by first|(with_reducible assumption)|assumption)
                have q10 : x5_1 < (a0.size : Int) := of_decide_eq_true (by first|(with_reducible assumption)|assumption)
                have hx10 := bt_at a0 x5_1
                replace p10 := eq_true p10
                replace q10 := eq_true q10
                go_wp2
                go_roundg k1
                case measure => have := HK1.out;omega
                case rel => exact ⟨(wrap64 ((wrap64 (x4_1 * 10)) + (((bt a0 x5_1) - 48) % 256))),(wrap64 (x5_1 + 1)),(by first|rfl|(simp;done)|(simp [*];done)),(by first|rfl|(simp;done)|(simp [*];done)),H',⟨by have := HK1.out;omega⟩,⟨by repeat (first|(with_reducible first|exact HB.out|apply bA|apply bN|apply bD)|exact HB.out)⟩⟩
          · rw [if_neg c5] at H
            exact absurd H (by simp)
        · rw [if_neg c4] at H
          have c4b0 : decide (x5_1 < (a0.size : Int)) = false := decide_eq_false c4
          clear c4
          obtain ⟨t106,A11,H⟩ := bindA H
          by_cases c12 : t106.toList = a0.toList
          · rw [if_pos c12] at H
            have c12b0 : (t106.toList == a0.toList) = true := beq_iff_eq.mpr c12
            have c12b1 : (t106.toList != a0.toList) = false := bne_eq_false_iff_eq.mpr c12
            clear c12
            obtain ⟨t107,A13,H⟩ := bindA H
            by_cases c14 : t107 = true
            · subst c14
              rw [if_pos rfl] at H
              simp only [Option.some.injEq,Prod.mk.injEq] at H
              obtain ⟨rfl,rfl⟩ := H
              go_wp2_with (first|((with_reducible refine gate_callee (f := 10) rfl ?_);refine goesL_ (some 35) rfl rfl Tryd.func10 (by kernel_rfl) rfl #[.int .i64 x4_1] rfl (by (try simp only [List.map_toArray,List.map_cons,List.map_nil]);first|done|rfl) ?_;(with_reducible refine (impl_NumText.calls (hT := ?hT_) x4_1 t106 _ A11.out).mono ?_);(case hT_ => exact tabB HT.out (by repeat (first|(with_reducible first|exact HB.out|apply bA|apply bN|apply bD)|exact HB.out)));rintro e w15 ⟨rfl,hb⟩;refine ⟨_,rfl,?_⟩;have n0_ := mk0 (below_step (by repeat (first|(with_reducible first|exact HB.out|apply bA|apply bN|apply bD)|exact HB.out)) hb);clear HB;have HB := n0_;clear n0_;(try clear hb);(try clear hb2);(try clear hk);(try clear hi))|(go_at_call 35;(with_reducible refine (impl_isWord.calls x4_1 true _ A13.out).mono ?_);rintro e w' ⟨rfl,⟨nd,rfl⟩⟩))
              go_ret2
              exact ⟨by first|rfl|(simp [errW_none,errW_some] <;> rfl)|(simp [*,errW_none,errW_some] <;> rfl),by repeat (first|(with_reducible first|exact HB.out|apply bA|apply bN|apply bD)|exact HB.out)⟩
            · replace c14 := Bool.eq_false_iff.mpr c14
              subst c14
              rw [if_neg (show ¬ (false = true) by decide)] at H
              simp only [Option.some.injEq,Prod.mk.injEq] at H
              obtain ⟨rfl,rfl⟩ := H
              go_wp2_with (first|((with_reducible refine gate_callee (f := 10) rfl ?_);refine goesL_ (some 35) rfl rfl Tryd.func10 (by kernel_rfl) rfl #[.int .i64 x4_1] rfl (by (try simp only [List.map_toArray,List.map_cons,List.map_nil]);first|done|rfl) ?_;(with_reducible refine (impl_NumText.calls (hT := ?hT_) x4_1 t106 _ A11.out).mono ?_);(case hT_ => exact tabB HT.out (by repeat (first|(with_reducible first|exact HB.out|apply bA|apply bN|apply bD)|exact HB.out)));rintro e w16 ⟨rfl,hb⟩;refine ⟨_,rfl,?_⟩;have n0_ := mk0 (below_step (by repeat (first|(with_reducible first|exact HB.out|apply bA|apply bN|apply bD)|exact HB.out)) hb);clear HB;have HB := n0_;clear n0_;(try clear hb);(try clear hb2);(try clear hk);(try clear hi))|(go_at_call 35;(with_reducible refine (impl_isWord.calls x4_1 false _ A13.out).mono ?_);rintro e w' ⟨rfl,⟨nd,rfl⟩⟩))
              go_ret2
              exact ⟨by first|rfl|(simp [errW_none,errW_some] <;> rfl)|(simp [*,errW_none,errW_some] <;> rfl),by repeat (first|(with_reducible first|exact HB.out|apply bA|apply bN|apply bD)|exact HB.out)⟩
          · rw [if_neg c12] at H
            have c12b0 : (t106.toList == a0.toList) = false := beq_eq_false_iff_ne.mpr c12
            have c12b1 : (t106.toList != a0.toList) = true := bne_iff_ne.mpr c12
            simp only [Option.some.injEq,Prod.mk.injEq] at H
            obtain ⟨rfl,rfl⟩ := H
            go_wp2_with (first|((with_reducible refine gate_callee (f := 10) rfl ?_);refine goesL_ (some 35) rfl rfl Tryd.func10 (by kernel_rfl) rfl #[.int .i64 x4_1] rfl (by (try simp only [List.map_toArray,List.map_cons,List.map_nil]);first|done|rfl) ?_;(with_reducible refine (impl_NumText.calls (hT := ?hT_) x4_1 t106 _ A11.out).mono ?_);(case hT_ => exact tabB HT.out (by repeat (first|(with_reducible first|exact HB.out|apply bA|apply bN|apply bD)|exact HB.out)));rintro e w17 ⟨rfl,hb⟩;refine ⟨_,rfl,?_⟩;have n0_ := mk0 (below_step (by repeat (first|(with_reducible first|exact HB.out|apply bA|apply bN|apply bD)|exact HB.out)) hb);clear HB;have HB := n0_;clear n0_;(try clear hb);(try clear hb2);(try clear hk);(try clear hi)))
            go_ret2
            exact ⟨by first|rfl|(simp [errW_none,errW_some] <;> rfl)|(simp [*,errW_none,errW_some] <;> rfl),by repeat (first|(with_reducible first|exact HB.out|apply bA|apply bN|apply bD)|exact HB.out)⟩
  · replace c3 := Bool.eq_false_iff.mpr c3
    subst c3
    rw [if_neg (show ¬ (false = true) by decide)] at H
    simp only [Option.some.injEq,Prod.mk.injEq] at H
    obtain ⟨rfl,rfl⟩ := H
    go_enter Tryd.func12,Tryd.ntmps12
    go_wp2_with (first|((with_reducible refine gate_callee (f := 34) rfl ?_);refine goesL_ (some 8) rfl rfl Tryd.func34 (by kernel_rfl) rfl #[.int .i64 (a0.size : Int),.int .i64 1,.int .i64 10] rfl (by (try simp only [List.map_toArray,List.map_cons,List.map_nil]);first|done|rfl) ?_;(with_reducible refine (impl_inRange.calls (a0.size : Int) 1 10 false _ A2.out).mono ?_);rintro e w' ⟨rfl,⟨nd,rfl⟩⟩;refine ⟨_,rfl,?_⟩))
    go_ret2
    exact ⟨by first|rfl|(simp [errW_none,errW_some] <;> rfl)|(simp [*,errW_none,errW_some] <;> rfl),by repeat (first|(with_reducible first|exact HB.out|apply bA|apply bN|apply bD)|exact HB.out)⟩

/-! ### laws_FnExactParseNum: function 4 -/
def laws_FnExactParseNum.f (k : Nat) (a0 : ByteArray) : Option (Bool) := if (a0.size : Int) > 1048576 then (some true) else ((spec_ParseNum.f k a0).bind fun bt108 => ((impl_ParseNum.f k a0).bind fun bt110 => (if bt110.1 = bt108.1 then (if (bt110.2 != bt108.2) = true then (none) else (some true)) else (none))))
theorem laws_FnExactParseNum.mono : ∀ a0 k, LeO (laws_FnExactParseNum.f k a0) (laws_FnExactParseNum.f (k + 1) a0) := by
  intro a0 k
  unfold laws_FnExactParseNum.f
  repeat' first
      | (with_reducible exact impl_ParseNum.mono _ _)
      | (with_reducible exact spec_ParseNum.mono _ _)
      | (with_reducible exact LeO.refl _)
      | (with_reducible exact LeO.none _)
      | (with_reducible refine LeO.ite ?_ ?_)
      | (with_reducible refine LeO.bind ?_ (fun _ => ?_))
      | exact impl_ParseNum.mono _ _
      | exact spec_ParseNum.mono _ _
      | exact LeO.none _
      | refine LeO.ite ?_ ?_
      | refine LeO.bind ?_ (fun _ => ?_)
set_option maxHeartbeats 8000000 in
set_option maxRecDepth 100000 in
theorem laws_FnExactParseNum.calls (k : Nat) (a0 : ByteArray) (r : Bool) (w : World) (hT : TabW w) (h : laws_FnExactParseNum.f k a0 = some r) :
    Calls Tryd.prog 4 #[.string a0] w fun e w' => e = .returned (.bool r) ∧ Below w.heap.size w w' := by
  have HB := mk0 (Below.refl w.heap.size w)
  have HT := mk0 hT
  clear hT
  have H : (if (a0.size : Int) > 1048576 then (some true) else ((spec_ParseNum.f k a0).bind fun bt108 => ((impl_ParseNum.f k a0).bind fun bt110 => (if bt110.1 = bt108.1 then (if (bt110.2 != bt108.2) = true then (none) else (some true)) else (none))))) = some r := h
  clear h
  by_cases c2 : (a0.size : Int) > 1048576
  · rw [if_pos c2] at H
    have c2b0 : decide (1048576 < (a0.size : Int)) = true := decide_eq_true c2
    have c2b1 : decide (1048576 < a0.size) = true := decide_eq_true (by omega)
    clear c2
    obtain rfl := Option.some.inj H
    go_enter Tryd.func4,Tryd.ntmps4
    go_wp2
    go_ret
    exact ⟨by first|rfl|(simp [errW_none,errW_some] <;> rfl)|(simp [*,errW_none,errW_some] <;> rfl),by repeat (first|(with_reducible first|exact HB.out|apply bA|apply bN|apply bD)|exact HB.out)⟩
  · rw [if_neg c2] at H
    have c2b0 : decide (1048576 < (a0.size : Int)) = false := decide_eq_false c2
    have c2b1 : decide (1048576 < a0.size) = false := decide_eq_false (by omega)
    clear c2
    replace H := Option.bind_eq_some_iff.mp H
    obtain ⟨⟨t108,t109⟩,A30,H⟩ := H
    replace H : ((impl_ParseNum.f k a0).bind fun bt110 => (if bt110.1 = t108 then (if (bt110.2 != t109) = true then (none) else (some true)) else (none))) = some r := H
    have A3 := mk0 A30
    clear A30
    replace H := Option.bind_eq_some_iff.mp H
    obtain ⟨⟨t110,t111⟩,A40,H⟩ := H
    replace H : (if t110 = t108 then (if (t111 != t109) = true then (none) else (some true)) else (none)) = some r := H
    have A4 := mk0 A40
    clear A40
    by_cases c5 : t110 = t108
    · rw [if_pos c5] at H
      have c5b0 : (t110 == t108) = true := beq_iff_eq.mpr c5
      have c5b1 : (t110 != t108) = false := bne_eq_false_iff_eq.mpr c5
      clear c5
      by_cases c6 : (t111 != t109) = true
      · rw [if_pos c6] at H
        exact absurd H (by simp)
      · rw [if_neg c6] at H
        have c6b0 : (t111 != t109) = false := by simpa using c6
        (try (have c6b1 : decide (t111 = t109) = true := by simpa using c6))
        (try (have c6b2 : (t111 == t109) = true := by simpa using c6))
        clear c6
        obtain rfl := Option.some.inj H
        go_enter Tryd.func4,Tryd.ntmps4
        go_wp2_with (first|((with_reducible refine gate_callee (f := 11) rfl ?_);refine goesL_ (some 12) rfl rfl Tryd.func11 (by kernel_rfl) rfl #[.string a0] rfl (by (try simp only [List.map_toArray,List.map_cons,List.map_nil]);first|done|rfl) ?_;(with_reducible refine (spec_ParseNum.calls k a0 t108 t109 _ A3.out).mono ?_);rintro e w' ⟨rfl,⟨nd,rfl⟩⟩;refine ⟨_,rfl,?_⟩)|((with_reducible refine gate_callee (f := 12) rfl ?_);refine goesL_ (some 17) rfl rfl Tryd.func12 (by kernel_rfl) rfl #[.string a0] rfl (by (try simp only [List.map_toArray,List.map_cons,List.map_nil]);first|done|rfl) ?_;(with_reducible refine (impl_ParseNum.calls (hT := ?hT_) k a0 t110 t111 _ A4.out).mono ?_);(case hT_ => exact tabB HT.out (by repeat (first|(with_reducible first|exact HB.out|apply bA|apply bN|apply bD)|exact HB.out)));rintro e w7 ⟨rfl,hb⟩;refine ⟨_,rfl,?_⟩;have n0_ := mk0 (below_step (by repeat (first|(with_reducible first|exact HB.out|apply bA|apply bN|apply bD)|exact HB.out)) hb);clear HB;have HB := n0_;clear n0_;(try clear hb);(try clear hb2);(try clear hk);(try clear hi)))
        go_ret
        exact ⟨by first|rfl|(simp [errW_none,errW_some] <;> rfl)|(simp [*,errW_none,errW_some] <;> rfl),by repeat (first|(with_reducible first|exact HB.out|apply bA|apply bN|apply bD)|exact HB.out)⟩
    · rw [if_neg c5] at H
      exact absurd H (by simp)

/-- THE ONE PURE STATEMENT of laws_FnExactParseNum: yours. -/
def laws_FnExactParseNum.Pure : Prop := ∀ (a0 : ByteArray),a0.size ≤ 140737488351232 → ∃ k,laws_FnExactParseNum.f k a0 = some true
theorem laws_FnExactParseNum.walk (P : laws_FnExactParseNum.Pure) (a0 : ByteArray) (w : World) (hT : TabW w) (w0 : a0.size ≤ 140737488351232) :
    Calls Tryd.prog 4 #[.string a0] w fun e w' => e = .returned (.bool true) ∧ Below w.heap.size w w' := by
  obtain ⟨k, h⟩ := P a0 w0
  refine (laws_FnExactParseNum.calls (hT := hT) k a0 true w h).mono ?_
  rintro e w' ⟨rfl, hd⟩
  exact ⟨rfl, hd⟩

end Go.Proofs.YtpencchkfbekdaaDoor.PFnExactParseNum
