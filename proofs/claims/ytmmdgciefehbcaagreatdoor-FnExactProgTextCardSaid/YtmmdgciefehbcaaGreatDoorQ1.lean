/- Contracts of functions that the claim reaches, over data without addresses, and what follows of them (text Q1). No conditions beside those that each theorem names. -/
import Derived.Test.YtmmdgciefehbcaaGreatDoorB2
import Derived.Laws.BytesString
set_option linter.unusedVariables false
set_option linter.unusedSimpArgs false
namespace Go.Proofs.YtmmdgciefehbcaaGreatDoor.Ax
open Go.RowKit
/-- Bytes as a string. -/
theorem o_b2s {P : Program} {y : Ty} {n : Nat} {Q : Exit → St → Prop} {ops : Array Oper} {r : List Oper} {t : List (Nat × T)} {L : List (Nat × Ob)} {F : List Ob} {i : Nat} {ty : TypeId} {pos : String} {af : Array Edge} (hY : TyOk P y) {src dst e : TypeId} {x : Operand} {ks : List Int} {xs : List D}
    (hs : y.ky src = some (.sl e)) (he : y.ky e = some (.nu .u8)) (hd : y.ky dst = some .st) (hx : Fz t L F x (.d (.sl xs))) (hxs : xs = ks.map (fun k => .i .u8 k)) (hne : xs ≠ []) (hi : dstB n (some i) = true)
    (h : So P n ops r Q ⟨(i, .d (.s (ks.foldl (fun r n => r.push (UInt8.ofNat n.toNat)) ByteArray.empty))) :: t, L, F⟩) : So P n ops (⟨some i, .convert src dst x, ty, pos, af, none⟩ :: r) Q ⟨t, L, F⟩ := by
  refine o_g hi (fun E a w I β R => ?_) h
  have hv := R.frz (R.ev x)
  rw [hx.ok] at hv
  obtain ⟨A, c, vs, sz, hA, hle, h1, h2, h3⟩ := repD_sl hv
  obtain ⟨ad, rfl, hsg⟩ := h3.resolve_left hne
  have hvs : vs = ks.map (Value.int .u8) := by
    rw [hxs] at h1
    clear hA hle h2 h3 hsg hv hx hxs hne h
    induction ks generalizing vs with
    | nil => simpa only [List.map_nil, RepL] using h1
    | cons b r ih =>
      simp only [List.map_cons, RepL] at h1
      obtain ⟨q1, q2, rfl, h2, h3⟩ := h1
      simp only [RepC] at h2
      rw [h2, ih q2 h3]
      rfl
  have hlen : vs.length = xs.length := by rw [hvs, hxs]; simp
  have hld : (loadCells ad xs.length).run P w = .ok (ks.map (Value.int .u8)).toArray w := by
    rw [← hlen, ← hvs]
    refine run_loadCells_list (P := P) w ad vs fun j v hj => ?_
    have had : ad = ⟨ad.block, ad.off, none⟩ := by rw [← hsg.1]
    have := (hsg.2 j v hj).1
    unfold Addr.add
    split
    · rename_i h0; subst h0; rw [had]; simpa using this
    · rw [had]; exact this
  have hrun := run_bytesToString (P := P) w ad xs.length c ks hld
  refine ⟨.string (ks.foldl (fun r n => r.push (UInt8.ofNat n.toNat)) ByteArray.empty), ?_, repD_of rfl (by simp only [RepC])⟩
  unfold execOp
  simp only [hA, convert, Sem.run_bind, run_underlying (hY.ky hs), run_underlying (hY.ky hd), run_underlying (hY.ky he), Result.andThen_ok, hrun, Sem.run_pure]
theorem isR_s {a b : ByteArray} (h : a = b) : isR (.d (.s b)) (.d (.s a)) [] := by subst h; exact ⟨rfl, rfl⟩
theorem wr64 {x : Int} (h0 : -9223372036854775808 ≤ x) (h1 : x ≤ 9223372036854775807) : IntKind.i64.wrap x = x := IntWalk.i64_in x (by omega)
def numT (n : Int) : ByteArray := ⟨(Go.Lib.itoa n).toArray⟩
theorem decDigits_len : ∀ (k m : Nat), m < 10 ^ (k + 1) → (Go.Lib.decDigits m).length ≤ k + 1 := by
  intro k
  induction k with
  | zero => intro m h; rw [Go.Lib.decDigits_one (by simpa using h)]; simp
  | succ k ih =>
    intro m h
    by_cases c : m < 10
    · rw [Go.Lib.decDigits_one c]; simp
    · rw [Go.Lib.decDigits.eq_1 m, dif_neg c, List.length_append]
      have := ih (m / 10) (by rw [Nat.pow_succ] at h; exact Nat.div_lt_of_lt_mul (by omega))
      simp; omega
theorem digits_step (m : Nat) (h : m ≠ 0) (l : List UInt8) : (if m / 10 = 0 then UInt8.ofNat (48 + m % 10) :: l else Go.Lib.decDigits (m / 10) ++ UInt8.ofNat (48 + m % 10) :: l) = Go.Lib.decDigits m ++ l := by
  by_cases c : m < 10
  · rw [if_pos (by omega), Go.Lib.decDigits_one c, Nat.mod_eq_of_lt c]
    rfl
  · rw [if_neg (by omega), Go.Lib.decDigits.eq_1 m, dif_neg c, List.append_assoc]
    rfl
theorem digs_len (n : Int) (h0 : -9223372036854775808 ≤ n) (h1 : n ≤ 9223372036854775807) : (Go.Lib.decDigits n.natAbs).length ≤ 20 := by
  have : (10 : Nat) ^ 20 = 100000000000000000000 := by decide
  exact decDigits_len 19 n.natAbs (by omega)
theorem numT_size (n : Int) (h0 : -9223372036854775808 ≤ n) (h1 : n ≤ 9223372036854775807) : (numT n).size ≤ 21 := by
  have h := digs_len n h0 h1
  have e : (numT n).size = (Go.Lib.itoa n).length := by simp [numT, ByteArray.size]
  rw [e]
  unfold Go.Lib.itoa
  split
  · simp only [List.length_cons]; omega
  · rw [show n.toNat = n.natAbs by omega]; omega
theorem implNumText_c (n : Int) (h0 : -9223372036854775808 ≤ n) (h1 : n ≤ 9223372036854775807) : AC Go.Proofs.Tryz.prog 18 [.d (.i .i64 n)] [] (isR (.d (.s (numT n)))) := by
  (refine AC_fn hY Tryz.func18 rfl Tryz.ntmps18 Tryz.results18 rfl (eq_true (by simp)) ?_; simp only [enumT])
  repeat' (first
    | refine s_seq ?_ | refine s_block ?_ | refine s_reg ?_ | refine s_skip ?_ | refine s_ret ?_ | refine s_end ?_ | refine n_seq ?_ | refine n_blk ?_ | refine n_nil ?_ | refine s_exit ?_ | refine e_seq ?_ | refine e_lp ?_ | refine e_blk ?_ | refine e_blk' rfl ?_
    | (refine o_v hY (v_wr rfl ?_) rfl ?_; · omega) | refine o_v hY (v_pv rfl) rfl ?_ | refine g_y rfl rfl ?_ | refine g_n hY rfl rfl rfl ?_ | refine g_u hY rfl rfl rfl ?_ | (refine g_s rfl rfl ?_ ?_ <;> fail_if_success (intro h; cases h; done)) | refine c_t rfl ?_ | refine c_f rfl ?_ | refine c_s rfl ?_ ?_
    | (intro h; (try simp only [decide_eq_true_eq, decide_eq_false_iff_not, Bool.not_eq_true', Bool.not_eq_false', beq_iff_eq, bne_iff_ne, beq_eq_false_iff_ne, bne_eq_false_iff_eq, ne_eq, toListI] at h); (try simp only [toListC] at h))
    | refine o_a hY (a_box rfl rfl rfl ?_) | refine o_a hY (a_alz rfl rfl rfl rfl rfl ?_) | refine o_a hY (a_als rfl rfl rfl ?_) | refine o_a hY (a_st rfl rfl rfl (.d rfl) rfl rfl ?_)
    | refine r_of (r_d rfl ?_) | refine r_of (r_c rfl rfl ?_) | refine r_of (r_2 rfl rfl ?_) | refine r_of (r_4 rfl rfl rfl rfl ?_)
    | refine o_a hY (a_call (itoa_c n h0 h1) (.cons (.d rfl) .nil) rfl ?_))
  exact ⟨rfl, rfl⟩
theorem one_digit (d : Nat) (h : d < 10) (l : List UInt8) : (([IntKind.u8.wrap (48 + (d : Int))] : List Int).foldl (fun r n => r.push (UInt8.ofNat n.toNat)) ByteArray.empty) ++ (⟨l.toArray⟩ : ByteArray) = ⟨(UInt8.ofNat (48 + d) :: l).toArray⟩ := by
  have e : IntKind.u8.wrap (48 + (d : Int)) = ((48 + d : Nat) : Int) := by
    have : ∀ d : _root_.Fin 10, IntKind.u8.wrap (48 + (d.val : Int)) = ((48 + d.val : Nat) : Int) := by decide
    exact this ⟨d, h⟩
  rw [e]
  apply ByteArray.ext
  rw [ByteArray.data_append]
  simp only [List.foldl_cons, List.foldl_nil, Int.toNat_natCast]
  simp
theorem psz (k : Int) : (([k] : List Int).foldl (fun r n => r.push (UInt8.ofNat n.toNat)) ByteArray.empty).size = 1 := rfl
def finN (n : Int) (l : List UInt8) : ByteArray := if n < 0 then ⟨(45 :: l).toArray⟩ else ⟨l.toArray⟩
theorem finN_eq (n : Int) : finN n (Go.Lib.decDigits n.natAbs) = numT n := by
  unfold finN numT Go.Lib.itoa
  by_cases c : n < 0
  · rw [if_pos c, if_pos c]
  · rw [if_neg c, if_neg c, show n.natAbs = n.toNat by omega]
theorem specNumText_c (n : Int) (h0 : -9223372036854775808 ≤ n) (h1 : n ≤ 9223372036854775807) : AC Go.Proofs.Tryz.prog 12 [.d (.i .i64 n)] [] (isR (.d (.s (numT n)))) := by
  have hT := digs_len n h0 h1
  (refine AC_fn hY Tryz.func12 rfl Tryz.ntmps12 Tryz.results12 rfl (eq_true (by simp)) ?_; simp only [enumT])
  repeat' (first
    | refine s_seq ?_ | refine s_block ?_ | refine s_reg ?_ | refine s_skip ?_ | refine s_ret ?_ | refine s_end ?_ | refine n_seq ?_ | refine n_blk ?_ | refine n_nil ?_ | refine s_exit ?_ | refine e_seq ?_ | refine e_lp ?_ | refine e_blk ?_ | refine e_blk' rfl ?_
    | (refine o_v hY (v_wr rfl ?_) rfl ?_; · omega) | refine o_v hY (v_pv rfl) rfl ?_ | refine g_y rfl rfl ?_ | refine g_n hY rfl rfl rfl ?_ | refine g_u hY rfl rfl rfl ?_ | (refine g_s rfl rfl ?_ ?_ <;> fail_if_success (intro h; cases h; done)) | refine c_t rfl ?_ | refine c_f rfl ?_ | refine c_s rfl ?_ ?_
    | (intro h; (try simp only [decide_eq_true_eq, decide_eq_false_iff_not, Bool.not_eq_true', Bool.not_eq_false', beq_iff_eq, bne_iff_ne, beq_eq_false_iff_ne, bne_eq_false_iff_eq, ne_eq, toListI] at h); (try simp only [toListC] at h))
    | refine o_a hY (a_box rfl rfl rfl ?_) | refine o_a hY (a_alz rfl rfl rfl rfl rfl ?_) | refine o_a hY (a_als rfl rfl rfl ?_) | refine o_a hY (a_st rfl rfl rfl (.d rfl) rfl rfl ?_)
    | refine r_of (r_d rfl ?_) | refine r_of (r_c rfl rfl ?_) | refine r_of (r_2 rfl rfl ?_) | refine r_of (r_4 rfl rfl rfl rfl ?_))
  · subst h
    refine isR_s ?_
    unfold numT Go.Lib.itoa
    rw [if_neg (by omega), show (0 : Int).toNat = 0 from rfl, Go.Lib.decDigits_one (by omega)]
    rfl
  refine s_loop (fun m τ => ∃ (x : Int) (l : List UInt8), m = x.natAbs ∧ -9223372036854775808 ≤ x ∧ x ≤ 9223372036854775807 ∧ (if x.natAbs = 0 then l else Go.Lib.decDigits x.natAbs ++ l) = Go.Lib.decDigits n.natAbs ∧ τ = ⟨[(0, .d (.i .i64 n)), (3, .d (.s ⟨l.toArray⟩)), (4, .d (.i .i64 x))], [], []⟩) n.natAbs ⟨n, [], rfl, h0, h1, by rw [if_neg (by omega), List.append_nil], rfl⟩ (Wk.of ⟨rfl, rfl, rfl, trivial⟩ trivial rfl) ?_
  rintro m τ ⟨x, l, rfl, x0, x1, hl, rfl⟩
  have hsz : (⟨l.toArray⟩ : ByteArray).size = l.length := by simp [ByteArray.size]
  have hlen : l.length ≤ 20 := by
    by_cases c : x.natAbs = 0
    · rw [if_pos c] at hl; rw [hl]; exact hT
    · rw [if_neg c] at hl
      have := congrArg List.length hl
      rw [List.length_append] at this
      omega
  have hd : x.natAbs % 10 < 10 := Nat.mod_lt _ (by omega)
  have hr : (Int.tmod x 10).natAbs = x.natAbs % 10 := Int.natAbs_tmod x 10
  have ht : (Int.tdiv x 10).natAbs = x.natAbs / 10 := Int.natAbs_tdiv x 10
  have hdig : ∀ z : Int, z = ((x.natAbs % 10 : Nat) : Int) → 48 + z = 48 + ((x.natAbs % 10 : Nat) : Int) := fun z h => by rw [h]
  have ts : (⟨#[45]⟩ : ByteArray).size = 1 := rfl
  have nx : ¬ x = 0 → ∀ τ, τ = (⟨[(0, .d (.i .i64 n)), (3, .d (.s ⟨(UInt8.ofNat (48 + x.natAbs % 10) :: l).toArray⟩)), (4, .d (.i .i64 (x.tdiv 10)))], [], []⟩ : St) → ∃ (x' : Int) (l' : List UInt8), (x.tdiv 10).natAbs = x'.natAbs ∧ -9223372036854775808 ≤ x' ∧ x' ≤ 9223372036854775807 ∧ (if x'.natAbs = 0 then l' else Go.Lib.decDigits x'.natAbs ++ l') = Go.Lib.decDigits n.natAbs ∧ τ = ⟨[(0, .d (.i .i64 n)), (3, .d (.s ⟨l'.toArray⟩)), (4, .d (.i .i64 x'))], [], []⟩ := fun h0 τ hτ => by
    refine ⟨x.tdiv 10, UInt8.ofNat (48 + x.natAbs % 10) :: l, rfl, by omega, by omega, ?_, hτ⟩
    rw [ht, digits_step _ (by omega)]
    rw [if_neg (by omega)] at hl
    exact hl
  repeat' (first
    | refine s_seq ?_ | refine s_block ?_ | refine s_reg ?_ | refine s_skip ?_ | refine s_ret ?_ | refine s_end ?_ | refine n_seq ?_ | refine n_blk ?_ | refine n_nil ?_ | refine s_exit ?_ | refine e_seq ?_ | refine e_lp ?_ | refine e_blk ?_ | refine e_blk' rfl ?_
    | (refine o_v hY (v_wr rfl ?_) rfl ?_; · omega) | refine o_v hY (v_pv rfl) rfl ?_ | refine g_y rfl rfl ?_ | refine g_n hY rfl rfl rfl ?_ | refine g_u hY rfl rfl rfl ?_ | (refine g_s rfl rfl ?_ ?_ <;> fail_if_success (intro h; cases h; done)) | refine c_t rfl ?_ | refine c_f rfl ?_ | refine c_s rfl ?_ ?_
    | (intro h; (try simp only [decide_eq_true_eq, decide_eq_false_iff_not, Bool.not_eq_true', Bool.not_eq_false', beq_iff_eq, bne_iff_ne, beq_eq_false_iff_ne, bne_eq_false_iff_eq, ne_eq, toListI] at h); (try simp only [toListC] at h))
    | refine o_a hY (a_box rfl rfl rfl ?_) | refine o_a hY (a_alz rfl rfl rfl rfl rfl ?_) | refine o_a hY (a_als rfl rfl rfl ?_) | refine o_a hY (a_st rfl rfl rfl (.d rfl) rfl rfl ?_)
    | refine r_of (r_d rfl ?_) | refine r_of (r_c rfl rfl ?_) | refine r_of (r_2 rfl rfl ?_) | refine r_of (r_4 rfl rfl rfl rfl ?_)
    | (refine o_v hY (v_cat rfl rfl ?_) rfl ?_
       · (try rw [psz]); omega) | refine o_a hY (a_cv rfl rfl rfl rfl ?_) | refine o_a hY (a_sl rfl rfl (.cons (.d rfl) .nil) (by simp [allSz, D.size]) rfl rfl rfl rfl rfl rfl ?_) | refine o_b2s hY rfl rfl rfl (.w rfl rfl rfl) (ks := [_]) rfl (by simp) rfl ?_)
  · rw [hdig (0 - x.tmod 10) (by omega), one_digit _ hd]
    exact n_lp _ (nx ‹_› _ rfl) (by omega) (Wk.of ⟨rfl, rfl, rfl, trivial⟩ trivial rfl)
  · rw [hdig (x.tmod 10) (by omega), one_digit _ hd]
    exact n_lp _ (nx ‹_› _ rfl) (by omega) (Wk.of ⟨rfl, rfl, rfl, trivial⟩ trivial rfl)
  · refine isR_s ?_
    subst ‹x = 0›
    rw [if_pos (show Int.natAbs 0 = 0 from rfl)] at hl
    rw [← finN_eq, ← hl, finN, if_pos ‹_›]
    apply ByteArray.ext
    rw [ByteArray.data_append]
    simp
  · refine isR_s ?_
    subst ‹x = 0›
    rw [if_pos (show Int.natAbs 0 = 0 from rfl)] at hl
    rw [← finN_eq, ← hl, finN, if_neg ‹_›]
end Go.Proofs.YtmmdgciefehbcaaGreatDoor.Ax
