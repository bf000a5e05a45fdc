/- A logic of calls over data without addresses: what a function is handed and hands back, told as plain values. No conditions. -/
import Derived.Test.YtmclamindmnigaaAx0
import Derived.IntWalk
import Derived.OrdersHeld
import Derived.Laws.Cover3
set_option linter.unusedVariables false
set_option linter.unusedSimpArgs false
namespace Go.Proofs.Ytmclamindmnigaa.Ax
open Go.RowKit
variable {P : Program} {y : Ty} {E : En} {σ : St} {a : Act} {w : World} {I : Im} {β : Be}

theorem RepL.flat {us : List Value} {z : D} (h : RepC w I z us) : ∀ n, RepL w I (List.replicate n z) (List.replicate n us).flatten
  | 0 => by simp [RepL]
  | n + 1 => by
    simp only [List.replicate_succ, RepL, List.flatten_cons]
    exact ⟨us, _, rfl, h, RepL.flat h n⟩

theorem range_flat (zs : Array Value) : ∀ n, ((Array.range (n * zs.size)).map (zs[· % zs.size]!)).toList = (List.replicate n zs.toList).flatten := by
  intro n
  apply List.ext_getElem?
  intro k
  have hlen : ∀ n, ((List.replicate n zs.toList).flatten).length = n * zs.size := fun n => by simp
  have key : ∀ n k, k < n * zs.size → ((List.replicate n zs.toList).flatten)[k]? = some (zs[k % zs.size]!) := by
    intro n
    induction n with
    | zero => intro k hk; simp at hk
    | succ n ih =>
      intro k hk
      rw [List.replicate_succ, List.flatten_cons]
      by_cases hq : k < zs.size
      · rw [List.getElem?_append_left (by simpa using hq), Nat.mod_eq_of_lt hq]
        simp [hq]
      · rw [List.getElem?_append_right (by simp; omega)]
        rw [Nat.succ_mul] at hk
        have := ih (k - zs.size) (by omega)
        simp only [Array.length_toList]
        rw [this]
        congr 2
        conv => rhs; rw [show k = k - zs.size + zs.size by omega]
        rw [Nat.add_mod_right]
  by_cases hk : k < n * zs.size
  · rw [key n k hk]
    simp [hk]
  · rw [List.getElem?_eq_none (by simp; omega), List.getElem?_eq_none (by rw [hlen]; omega)]

theorem make_ok (hY : TyOk P y) (R : Rel E σ a w I β) {o : Oper} {ty : TypeId} {l c : Operand} (ho : o.op = .makeSlice ty l c) (hd : ∀ i, o.dst = some i → i < E.n) {K : St → Prop} {Q : Exit → Act → World → Prop}
    (h : opMake y σ o.dst ty (σ.ev l) (σ.ev c) K) : o.wp P a w (Kz E w I σ β false K) Q := by
  have hl := R.ev l
  have hc := R.ev c
  unfold opMake at h
  split at h
  · rename_i i e n m hi hk el ec
    rw [el] at hl
    rw [ec] at hc
    have hl := repD_i hl
    have hc := repD_i hc
    split at h
    · rename_i r z hr hz
      obtain ⟨rfl, h0, h1, h2, h3, h4, h5⟩ := h
      obtain ⟨q, rfl⟩ : ∃ q : Nat, m = q := ⟨m.toNat, by omega⟩
      rw [Int.toNat_natCast] at h5
      obtain ⟨inf, i1, i2, i3⟩ := hY.info e r hr
      obtain ⟨inf', zv, j1, j2, j3, j4⟩ := hY.zero e z hz
      rw [i1] at j1
      cases j1
      have hzr := (j4 w I).1
      have hzl := hzr.len
      simp at hzl
      have R2 := R.newmr (R.clean h4) e h3 (RepL.flat hzr q) (fun x hx => by rw [List.eq_of_mem_replicate hx, j3, i2])
      have hw := IntWalk.i64_in (q : Int) (by omega)
      have hrun : (execOp a.eval o).run P w = .ok (.value (.slice (some ⟨w.heap.size, 0, none⟩) q q)) (w.alloc (.cells (List.replicate q zv.cells.toList).flatten.toArray e (0, 0))) := by
        have hfl := range_flat zv.cells q
        rw [show zv.cells.size = r.sz by omega] at hfl
        have hfl' : ((Array.range (q * r.sz)).map (zv.cells[· % zv.cells.size]!)) = (List.replicate q zv.cells.toList).flatten.toArray := by
          rw [← Array.toList_inj]
          rw [show zv.cells.size = r.sz by omega, hfl]
        unfold execOp
        simp only [ho, hl, hc, Instr.makeSlice, Sem.run_bind, run_underlying (hY.ky hk), Result.andThen_ok, asInt, asIntOf, Sem.run_pure, run_typeInfo w i1, hw, i3, Int.toNat_natCast]
        have hcond : ((decide ((q : Int) < 0) || decide ((r.by_ : Int) * q > 2 ^ 48)) || decide ((q : Int) < 0) || decide ((q : Int) > (q : Int))) = false := by
          simp only [Bool.or_eq_false_iff, decide_eq_false_iff_not]
          omega
        rw [if_neg (by rw [hcond]; simp)]
        have hroom : (askRoom (q * r.by_)).run P w = .ok () w := by
          unfold askRoom
          split <;> rfl
        simp only [Sem.run_pure, Result.andThen_ok, hroom, sizeOf, run_typeInfo w i1, Sem.run_bind, i2]
        by_cases hq : q * r.sz = 0
        · have : q = 0 := by
            rcases Nat.mul_eq_zero.1 hq with h | h
            · exact h
            · omega
          subst this
          simp only [hq, if_true, Sem.run_pure, Result.andThen_ok, newRow, Sem.run_bind]
          rw [show ∀ f : Nat → Value, (Array.range 0).map f = #[] from fun f => Array.size_eq_zero_iff.1 (by simp)]
          rfl
        · simp only [hq, if_false, zeroValue, Sem.run_bind, run_typeInfo w i1, Result.andThen_ok, j2, Sem.run_pure, newRow, hfl']
          rfl
      unfold Oper.wp
      rw [hrun]
      simp only [Oper.upon, hi]
      refine ⟨_, _, _, R2.put (dst := some i) (fun j hj => hd j (by rw [hi]; exact hj)) (x := .rf (.l i) q) ?_, h5, Ext.alloc R.ob.new _ _, fun j c hj => ⟨fun _ => alloc_old w _ (R.var_lt hj), c, Rel.var_new (R.clean h4) hj⟩⟩
      simp only [RelT, upd_eq]
    · exact h.elim
  · exact h.elim

/-! ### Contracts -/
def fobj (F : List Ob) : Key → Option Ob
  | .f n => F[n]?
  | .l _ => none

structure Fin (w : World) (I : Im) (β : Be) (F : List Ob) : Prop where
  ob : Objs w I β (fobj F)
  nf : ∀ (n : Nat) (o : Ob), F[n]? = some o → ∀ k ∈ o.keys, fKey k

def XF (β : Be) (F : List Ob) (b : Nat) : Prop := ∃ (n : Nat) (o : Ob), F[n]? = some o ∧ own β (.f n) o = some b

structure Post (R : T → List Ob → Prop) (w : World) (I : Im) (β : Be) (F : List Ob) (v : Value) (w' : World) (r : T) (Fo : List Ob) (I' : Im) (β' : Be) : Prop where
  pr : R r Fo
  nr : ∀ k ∈ r.keys, fKey k
  v : RelT w' I' β' r v
  fin : Fin w' I' β' Fo
  ext : Ext w I w' I'
  fr : Fr w I (XF β F) w' I'
  kp : Keep fKey β β'
  fo : ∀ (n : Nat) (o : Ob) (b : Nat), Fo[n]? = some o → own β' (.f n) o = some b → w.heap.size ≤ b ∨ XF β F b

def Plain (P : Program) (f : FuncId) : Prop := ∃ fn, P.funcs[f]? = some fn ∧ (fn.name == "runtime.NumGoroutine") = false ∧ fn.body.isNone = false

/-- A contract: at such arguments and foreign objects the function comes back, and R tells its answer and the foreign objects behind it. -/
def AC (P : Program) (f : FuncId) (args : List T) (F : List Ob) (R : T → List Ob → Prop) : Prop :=
  Plain P f ∧ ∀ w I β (vs : List Value), Gd w (XF β F) → Fin w I β F → (∀ x ∈ args, ∀ k ∈ x.keys, fKey k) → All2 (RelT w I β) args vs →
    Calls P f vs.toArray w fun e w' => ∃ v r Fo I' β', e = .returned v ∧ Post R w I β F v w' r Fo I' β'

theorem AC.mono {f : FuncId} {args : List T} {F : List Ob} {R R' : T → List Ob → Prop} (h : AC P f args F R) (hr : ∀ r Fo, R r Fo → R' r Fo) : AC P f args F R' :=
  ⟨h.1, fun w I β vs h0 h1 h2 h3 => (h.2 w I β vs h0 h1 h2 h3).mono fun _ _ ⟨v, r, Fo, I', β', he, p⟩ => ⟨v, r, Fo, I', β', he, ⟨hr _ _ p.pr, p.nr, p.v, p.fin, p.ext, p.fr, p.kp, p.fo⟩⟩⟩

def isF : Key → Bool
  | .f _ => true
  | .l _ => false
def T.noL : T → Bool
  | .pt k _ => isF k
  | .rw k _ => isF k
  | .rf k _ => isF k
  | .pm k _ _ => isF k
  | .fn _ ks => ks.all isF
  | .dt _ k _ _ => isF k
  | _ => true
theorem T.noL_ok {x : T} (h : x.noL = true) : ∀ k ∈ x.keys, fKey k := by
  intro k hk
  have : isF k = true := by
    cases x <;> simp_all [T.noL, T.keys]
  cases k <;> simp_all [isF, fKey]
def noLs : List T → Bool
  | [] => true
  | x :: r => x.noL && noLs r
theorem noLs_ok : ∀ {l : List T}, noLs l = true → ∀ x ∈ l, ∀ k ∈ x.keys, fKey k
  | [], _, x, hx => by simp at hx
  | z :: r, h, x, hx => by
    simp only [noLs, Bool.and_eq_true] at h
    rcases List.mem_cons.1 hx with rfl | hx
    · exact T.noL_ok h.1
    · exact noLs_ok h.2 x hx

/-! ### Other names of keys -/
def kbk (ks : List Nat) : Key → Key
  | .f j => match ks[j]? with
    | some i => .l i
    | none => .f j
  | .l i => .l i
def tbk (ks : List Nat) : T → T
  | .pt k o => .pt (kbk ks k) o
  | .rw k m => .rw (kbk ks k) m
  | .rf k m => .rf (kbk ks k) m
  | .pm k i sz => .pm (kbk ks k) i sz
  | .fn f l => .fn f (l.map (kbk ks))
  | .dt x k m o => .dt x (kbk ks k) m o
  | .any => .any
  | .un => .un
  | .nl => .nl
  | .d x => .d x
  | .tu xs => .tu xs
  | .pd x o => .pd x o
def obk (ks : List Nat) : Ob → Ob
  | .var x => .var (tbk ks x)
  | .row e sz xs => .row e sz xs
  | .mr e sz xs => .mr e sz xs
  | .bld ty kr n => .bld ty (kbk ks kr) n
def Be.bk (β : Be) (ks : List Nat) : Be := ⟨fun k => β.blk (kbk ks k), fun k => β.row (kbk ks k)⟩

/-- A new object comes back. -/
structure NewP (w : World) (I : Im) (v : Value) (w' : World) (r : T) (o : Ob) (I' : Im) (β' : Be) : Prop where
  v : RelT w' I' β' r v
  ob : RelO w' I' β' (.f 0) o
  kr : ∀ k ∈ r.keys, k = .f 0
  ko : o.keys = []
  own : ∀ b, own β' (.f 0) o = some b → w.heap.size ≤ b
  ext : Ext w I w' I'
  fr : Fr w I (fun _ => False) w' I'
  new : ∀ b, w'.heap.size ≤ b → I' b = 0

/-- A contract: the function sees no object and hands back a new one. -/
def AN (P : Program) (f : FuncId) (args : List T) (R : T → Ob → Prop) : Prop :=
  Plain P f ∧ ∀ w I β (vs : List Value), Gd w (fun _ => False) → (∀ b, w.heap.size ≤ b → I b = 0) → All2 (RelT w I β) args vs →
    Calls P f vs.toArray w fun e w' => ∃ v r o I' β', e = .returned v ∧ R r o ∧ NewP w I v w' r o I' β'

/-- The foreign objects come back, and a new one. -/
structure PostN (R : T → List Ob → Ob → Prop) (w : World) (I : Im) (β : Be) (F : List Ob) (v : Value) (w' : World) (r : T) (Fo : List Ob) (o : Ob) (I' : Im) (β' γ : Be) : Prop where
  pr : R r Fo o
  p : Post (fun _ _ => True) w I β F v w' .any Fo I' β'
  v : RelT w' I' γ r v
  ob : RelO w' I' γ (.f 0) o
  kr : ∀ k ∈ r.keys, k = .f 0
  ko : o.keys = []
  own : ∀ b, own γ (.f 0) o = some b → w.heap.size ≤ b ∧ ¬ XF β' Fo b
/-- A contract: the function sees foreign objects, and hands back a new one too. -/
def AM (P : Program) (f : FuncId) (args : List T) (F : List Ob) (R : T → List Ob → Ob → Prop) : Prop :=
  Plain P f ∧ ∀ w I β (vs : List Value), Gd w (XF β F) → Fin w I β F → (∀ x ∈ args, ∀ k ∈ x.keys, fKey k) → All2 (RelT w I β) args vs →
    Calls P f vs.toArray w fun e w' => ∃ v r Fo o I' β' γ, e = .returned v ∧ PostN R w I β F v w' r Fo o I' β' γ
theorem AM.mono {f : FuncId} {args : List T} {F : List Ob} {R R' : T → List Ob → Ob → Prop} (h : AM P f args F R) (hr : ∀ r Fo o, R r Fo o → R' r Fo o) : AM P f args F R' :=
  ⟨h.1, fun w I β vs h0 h1 h2 h3 => (h.2 w I β vs h0 h1 h2 h3).mono fun _ _ ⟨v, r, Fo, o, I', β', γ, he, p⟩ => ⟨v, r, Fo, o, I', β', γ, he, ⟨hr _ _ _ p.pr, p.p, p.v, p.ob, p.kr, p.ko, p.own⟩⟩⟩

/-- A call, by a contract: of a function that sees no object, or all foreign ones. -/
def aCall (P : Program) (f : FuncId) (args : List T) (dst : Option Tmp) (σ : St) (K : St → Prop) : Prop :=
  (∀ E a w I β vs, Rel E σ a w I β → All2 (RelT w I β) args vs → Plain P f ∧ Calls P f vs.toArray w fun e w' => ∃ v r σ' I' β', e = .returned v ∧ Rel E σ' a w' I' β' ∧ RelT w' I' β' r v ∧ Ext w I w' I' ∧
    (∀ i c, look σ.L i = some (.var c) → w'.heap[β.blk (.l i)]? = w.heap[β.blk (.l i)]? ∧ look σ'.L i = some (.var c) ∧ β'.blk (.l i) = β.blk (.l i)) ∧ K (σ'.put dst r)) ∨
  noLs args = true ∧
  ((∃ R, AC P f args [] R ∧ ∀ r Fo, R r Fo → Fo = [] ∧ r.keys = [] ∧ K (σ.put dst r)) ∨
   (∃ R, AC P f args σ.F R ∧ ∀ r Fo, R r Fo → K (({ σ with F := Fo } : St).put dst r)) ∨
   (∃ R i, AN P f args R ∧ σ.cleanB i = true ∧ ∀ r o, R r o → K ((σ.setO (.l i) o).put dst (tbk [i] r))) ∨
   (∃ R i, AM P f args σ.F R ∧ σ.cleanB i = true ∧ ∀ r Fo o, R r Fo o → K ((({ σ with F := Fo } : St).setO (.l i) o).put dst (tbk [i] r))))

theorem aCall_q {f : FuncId} {args : List T} {dst : Option Tmp} {K : St → Prop} {R : T → Prop} (h : AC P f args [] fun r Fo => Fo = [] ∧ R r) (hn : noLs args = true) (hk : ∀ r, R r → r.keys = [] ∧ K (σ.put dst r)) : aCall P f args dst σ K :=
  .inr ⟨hn, .inl ⟨_, h, fun r _ hr => ⟨hr.1, hk r hr.2⟩⟩⟩
end Go.Proofs.Ytmclamindmnigaa.Ax

namespace Go.Proofs.Ytmclamindmnigaa.Ax
open Go.RowKit
variable {P : Program} {y : Ty} {E : En} {σ : St} {a : Act} {w : World} {I : Im} {β : Be}

/-- Something happened that touched no object. -/
theorem Rel.quiet (R : Rel E σ a w I β) {w' : World} {I' : Im} (e : Ext w I w' I') (f : Fr w I (fun _ => False) w' I') (hn : ∀ b, w'.heap.size ≤ b → I' b = 0) : Rel E σ a w' I' β := by
  refine ⟨fun i x hx => RelT.mono e (Keep.refl _ β) (R.tm i x hx), R.tz, R.df, ⟨fun k o hk => ?_, R.ob.sep, hn⟩, R.ext.trans e, R.fr.trans f (fun _ _ _ h => h), R.kp, R.lo, R.fo, R.nf⟩
  have hr := R.ob.rel k o hk
  exact (RelO.keep e (fun k' _ => ⟨rfl, fun n v h => h⟩) (fun n h => h) (fun b hb => f.block b (own_lt hr hb) (fun h => h)) hr).1

theorem Rel.gd (R : Rel E σ a w I β) {Y : Nat → Prop} (h : ∀ b, Y b → E.w.heap.size ≤ b ∨ E.X b) : Gd w Y := E.gd.step (fun b h1 h2 => (R.fr.block b h1 h2).1) h
theorem Rel.fin (R : Rel E σ a w I β) : Fin w I β σ.F := by
  have hq : ∀ k o, fobj σ.F k = some o → σ.obj k = some o := fun k o h => by
    cases k with
    | l n => simp [fobj] at h
    | f n => exact h
  exact ⟨⟨fun k o h => R.ob.rel k o (hq k o h), fun k k' o o' b h h' => R.ob.sep k k' o o' b (hq k o h) (hq k' o' h'), R.ob.new⟩, R.nf⟩

def mix (β β' : Be) : Be where
  blk := fun k => match k with
    | .l _ => β.blk k
    | .f _ => β'.blk k
  row := fun k => match k with
    | .l _ => β.row k
    | .f _ => β'.row k

theorem mix_keep {β β' : Be} (h : Keep fKey β β') (S : Key → Prop) : Keep S β (mix β β') := fun k _ => by
  cases k with
  | l n => exact ⟨rfl, fun _ _ h => h⟩
  | f n => exact h (.f n) trivial

/-- A call that was handed all foreign objects. -/
theorem Rel.passed (R : Rel E σ a w I β) {r : T} {Fo : List Ob} {v : Value} {w' : World} {I' : Im} {β' : Be} {S : T → List Ob → Prop} (p : Post S w I β σ.F v w' r Fo I' β') :
    Rel E { σ with F := Fo } a w' I' (mix β β') ∧ RelT w' I' (mix β β') r v := by
  have hobjl : ∀ n, ({ σ with F := Fo } : St).obj (.l n) = σ.obj (.l n) := fun _ => rfl
  have ownl : ∀ n o, own (mix β β') (.l n) o = own β (.l n) o := fun n o => by cases o <;> rfl
  have ownf : ∀ n o, own (mix β β') (.f n) o = own β' (.f n) o := fun n o => by cases o <;> rfl
  have notX : ∀ n o b, look σ.L n = some o → own β (.l n) o = some b → ¬ XF β σ.F b := by
    rintro n o b h1 h2 ⟨m, o', h3, h4⟩
    have := R.ob.sep (.l n) (.f m) o o' b h1 h3 h2 h4
    cases this
  have rell : ∀ n o, look σ.L n = some o → RelO w' I' (mix β β') (.l n) o := fun n o h => by
    have hr := R.ob.rel (.l n) o h
    exact (RelO.keep (k := .l n) (β' := mix β β') p.ext (fun k' _ => mix_keep p.kp (fun _ => True) k' trivial) (fun m hm => hm) (fun b hb => p.fr.block b (own_lt hr hb) (notX n o b h hb)) hr).1
  have relf : ∀ (n : Nat) (o : Ob), Fo[n]? = some o → RelO w' I' (mix β β') (.f n) o := fun n o h => by
    have hr := p.fin.ob.rel (.f n) o h
    refine (RelO.keep (k := .f n) (β := β') (β' := mix β β') (Ext.refl w' I') (fun k' hk' => ?_) (fun m hm => hm) (fun b hb => ⟨rfl, rfl⟩) hr).1
    have hf : fKey k' := by
      rcases hk' with rfl | hk'
      · trivial
      · exact p.fin.nf n o h k' hk'
    cases k' with
    | l m => exact hf.elim
    | f m => exact ⟨rfl, fun _ _ h => h⟩
  refine ⟨⟨fun i x hx => RelT.mono p.ext (mix_keep p.kp _) (R.tm i x hx), R.tz, R.df, ⟨fun k o hk => ?_, fun k k' o o' b h h' hb hb' => ?_, p.fin.ob.new⟩, R.ext.trans p.ext, R.fr.trans p.fr ?_, R.kp.trans (mix_keep p.kp _), fun n o b h hb => ?_, fun n o b h hb => ?_, p.fin.nf⟩, ?_⟩
  · cases k with
    | l n => exact rell n o hk
    | f n => exact relf n o hk
  · cases k with
    | l n =>
      rw [ownl] at hb
      cases k' with
      | l m =>
        rw [ownl] at hb'
        exact R.ob.sep _ _ _ _ b h h' hb hb'
      | f m =>
        rw [ownf] at hb'
        have h1 := own_lt (R.ob.rel (.l n) o h) hb
        rcases p.fo m o' b h' hb' with h2 | h2
        · omega
        · exact absurd h2 (notX n o b h hb)
    | f n =>
      rw [ownf] at hb
      cases k' with
      | l m =>
        rw [ownl] at hb'
        have h1 := own_lt (R.ob.rel (.l m) o' h') hb'
        rcases p.fo n o b h hb with h2 | h2
        · omega
        · exact absurd h2 (notX m o' b h' hb')
      | f m =>
        rw [ownf] at hb'
        exact p.fin.ob.sep _ _ _ _ b h h' hb hb'
  · rintro b hb hx ⟨m, o', h3, h4⟩
    rcases R.fo m o' b h3 h4 with h5 | h5
    · omega
    · exact hx h5
  · rw [ownl] at hb
    exact R.lo n o b h hb
  · rw [ownf] at hb
    rcases p.fo n o b h hb with h2 | ⟨m, o', h3, h4⟩
    · exact .inl (Nat.le_trans R.fr.size h2)
    · exact R.fo m o' b h3 h4
  · refine RelT.mono (Ext.refl w' I') (fun k hk => ?_) p.v
    have hf := p.nr k hk
    cases k with
    | l m => exact hf.elim
    | f m => exact ⟨rfl, fun _ _ h => h⟩

theorem relT_bk {ks : List Nat} {x : T} {v : Value} : RelT w I (β.bk ks) x v ↔ RelT w I β (tbk ks x) v := by
  cases x <;> simp only [RelT, tbk, Be.bk, List.map_map] <;> rfl
theorem relO_bk {ks : List Nat} {k : Key} {o : Ob} : RelO w I (β.bk ks) k o ↔ RelO w I β (kbk ks k) (obk ks o) := by
  cases o with
  | var x =>
    have hc : ∀ us, RelC w I (β.bk ks) x us ↔ RelC w I β (tbk ks x) us := fun us => by
      cases x with
      | d z => exact Iff.rfl
      | dt z k m o => exact Iff.rfl
      | _ => exact ⟨fun ⟨v, h1, h2, h3⟩ => ⟨v, h1, relT_bk.1 h2, h3⟩, fun ⟨v, h1, h2, h3⟩ => ⟨v, h1, relT_bk.2 h2, h3⟩⟩
    exact ⟨fun ⟨ty, us, h1, h2, h3⟩ => ⟨ty, us, h1, (hc us).1 h2, h3⟩, fun ⟨ty, us, h1, h2, h3⟩ => ⟨ty, us, h1, (hc us).2 h2, h3⟩⟩
  | row e sz xs => exact Iff.rfl
  | mr e sz xs => exact Iff.rfl
  | bld ty kr n => exact Iff.rfl
theorem own_bk {ks : List Nat} {k : Key} {o : Ob} : own (β.bk ks) k o = own β (kbk ks k) (obk ks o) := by cases o <;> rfl
theorem obk_nil {ks : List Nat} {o : Ob} (h : o.keys = []) : obk ks o = o := by
  cases o with
  | var x =>
    cases x <;> simp_all [Ob.keys, T.keys, obk, tbk]
  | bld ty kr n => simp [Ob.keys] at h
  | _ => rfl

theorem Rel.newob (R : Rel E σ a w I β) {i : Nat} (hc : σ.Clean (.l i)) {v : Value} {w' : World} {r : T} {o : Ob} {I' : Im} {β' : Be} (p : NewP w I v w' r o I' β') :
    ∃ β3 : Be, Rel E (σ.setO (.l i) o) a w' I' β3 ∧ RelT w' I' β3 (tbk [i] r) v ∧ β3.blk = upd β.blk (.l i) (β'.blk (.f 0)) := by
  let β3 : Be := ⟨upd β.blk (.l i) (β'.blk (.f 0)), upd β.row (.l i) (β'.row (.f 0))⟩
  have hK : (β3.bk [i]).blk (.f 0) = β'.blk (.f 0) ∧ (β3.bk [i]).row (.f 0) = β'.row (.f 0) := ⟨upd_eq _ _ _, upd_eq _ _ _⟩
  have hk : ∀ ks : List Key, (∀ k ∈ ks, k = .f 0) → Keep (· ∈ ks) β' (β3.bk [i]) := fun ks h k hm => by
    obtain rfl := h k hm
    exact ⟨hK.1, fun n v hv => by rw [hK.2]; exact hv⟩
  have ho := RelO.keep (k := .f 0) (β' := β3.bk [i]) (Ext.refl w' I') (fun k' hk' => by
    have : k' = .f 0 := by
      rcases hk' with h | h
      · exact h
      · rw [p.ko] at h; cases h
    subst this
    exact ⟨hK.1, fun n v hv => by rw [hK.2]; exact hv⟩) (fun n hn => by rw [hK.2]; exact hn) (fun _ _ => ⟨rfl, rfl⟩) p.ob
  have ho1 : RelO w' I' β3 (.l i) o := by
    have := relO_bk.1 ho.1
    rw [obk_nil p.ko] at this
    exact this
  have ho2 : own β3 (.l i) o = own β' (.f 0) o := by
    have := ho.2
    rw [own_bk, obk_nil p.ko] at this
    exact this
  refine ⟨β3, ?_, relT_bk.1 (RelT.mono (Ext.refl w' I') (hk _ p.kr) p.v), rfl⟩
  refine R.step p.ext ⟨p.fr.os, p.fr.tape, p.fr.output, p.fr.size, fun b hb _ => p.fr.block b hb (fun h => h)⟩ (fun k' hne => ⟨upd_ne _ _ hne, upd_ne _ _ hne⟩) (.inl ⟨hc, fun h => h⟩) ho1 (fun b hb => .inr ?_) (fun h => h.elim) p.new
  rw [ho2] at hb
  exact p.own b hb

/-- An object that nobody owns yet is taken over. -/
theorem Rel.adopt (R : Rel E σ a w I β) {i : Nat} (hc : σ.Clean (.l i)) {o : Ob} {γ : Be} (ho : RelO w I γ (.f 0) o) (ko : o.keys = []) (hb : ∀ b, own γ (.f 0) o = some b → E.w.heap.size ≤ b ∧ ∀ k o', σ.obj k = some o' → own β k o' ≠ some b) :
    ∃ β3 : Be, Rel E (σ.setO (.l i) o) a w I β3 ∧ (∀ r v, (∀ k ∈ r.keys, k = .f 0) → RelT w I γ r v → RelT w I β3 (tbk [i] r) v) ∧ β3.blk = upd β.blk (.l i) (γ.blk (.f 0)) := by
  let β3 : Be := ⟨upd β.blk (.l i) (γ.blk (.f 0)), upd β.row (.l i) (γ.row (.f 0))⟩
  have hβ : ∀ k', k' ≠ .l i → β3.blk k' = β.blk k' ∧ β3.row k' = β.row k' := fun k' hne => ⟨upd_ne _ _ hne, upd_ne _ _ hne⟩
  have hK : (β3.bk [i]).blk (.f 0) = γ.blk (.f 0) ∧ (β3.bk [i]).row (.f 0) = γ.row (.f 0) := ⟨upd_eq _ _ _, upd_eq _ _ _⟩
  have hk : ∀ ks : List Key, (∀ k ∈ ks, k = .f 0) → Keep (· ∈ ks) γ (β3.bk [i]) := fun ks h k hm => by
    obtain rfl := h k hm
    exact ⟨hK.1, fun n v hv => by rw [hK.2]; exact hv⟩
  have h1 := RelO.keep (k := .f 0) (β' := β3.bk [i]) (Ext.refl w I) (fun k' hk' => by
    have : k' = .f 0 := by
      rcases hk' with h | h
      · exact h
      · rw [ko] at h; cases h
    subst this
    exact ⟨hK.1, fun n v hv => by rw [hK.2]; exact hv⟩) (fun n hn => by rw [hK.2]; exact hn) (fun _ _ => ⟨rfl, rfl⟩) ho
  have ho1 : RelO w I β3 (.l i) o := by
    have := relO_bk.1 h1.1
    rw [obk_nil ko] at this
    exact this
  have ho2 : own β3 (.l i) o = own γ (.f 0) o := by
    have := h1.2
    rw [own_bk, obk_nil ko] at this
    exact this
  have hobj := St.obj_setO (σ := σ) (k := .l i) (o := o) (fun _ h => by cases h)
  have other : ∀ k' o', k' ≠ .l i → σ.obj k' = some o' → RelO w I β3 k' o' ∧ own β3 k' o' = own β k' o' := fun k' o' hne hq => by
    refine RelO.keep (Ext.refl w I) (fun k2 h2 => ?_) (fun n hn => by rw [(hβ k' hne).2]; exact hn) (fun b hb => ⟨rfl, rfl⟩) (R.ob.rel k' o' hq)
    have hne2 : k2 ≠ .l i := by
      rcases h2 with rfl | h2
      · exact hne
      · rintro rfl; exact (hc.2 k' o' hq).1 h2
    obtain ⟨e1, e2⟩ := hβ k2 hne2
    exact ⟨e1, fun n v hv => by rw [e2]; exact hv⟩
  refine ⟨β3, ⟨fun j x hx => RelT.mono (Ext.refl w I) (keep_off (hc.1 j x hx) hβ) (R.tm j x hx), R.tz, R.df, ⟨fun k' o' hq => ?_, fun k1 k2 o1 o2 b q1 q2 b1 b2 => ?_, R.ob.new⟩, R.ext, R.fr, ?_, fun n o' b hq hob => ?_, fun n o' b hq hob => ?_, R.nf⟩, fun r v hr hv => relT_bk.1 (RelT.mono (Ext.refl w I) (hk _ hr) hv), rfl⟩
  · rw [hobj] at hq
    split at hq
    · rename_i hk'; subst hk'; cases hq; exact ho1
    · rename_i hk'; exact (other k' o' hk' hq).1
  · rw [hobj] at q1 q2
    by_cases e1 : k1 = .l i <;> by_cases e2 : k2 = .l i
    · rw [e1, e2]
    · rw [if_pos e1] at q1; rw [if_neg e2] at q2; cases q1; subst e1
      rw [(other k2 o2 e2 q2).2] at b2
      rw [ho2] at b1
      exact absurd b2 ((hb b b1).2 k2 o2 q2)
    · rw [if_neg e1] at q1; rw [if_pos e2] at q2; cases q2; subst e2
      rw [(other k1 o1 e1 q1).2] at b1
      rw [ho2] at b2
      exact absurd b1 ((hb b b2).2 k1 o1 q1)
    · rw [if_neg e1] at q1; rw [if_neg e2] at q2
      rw [(other k1 o1 e1 q1).2] at b1
      rw [(other k2 o2 e2 q2).2] at b2
      exact R.ob.sep _ _ _ _ b q1 q2 b1 b2
  · refine R.kp.trans (fun k' hk' => ?_)
    have hne : k' ≠ .l i := by rintro rfl; exact hk'
    obtain ⟨e1, e2⟩ := hβ k' hne
    exact ⟨e1, fun n v hv => by rw [e2]; exact hv⟩
  · have hq' : (σ.setO (.l i) o).obj (.l n) = some o' := hq
    rw [hobj] at hq'
    split at hq'
    · rename_i hk'; cases hq'; rw [hk', ho2] at hob; exact (hb b hob).1
    · rename_i hk'; rw [(other _ o' hk' hq').2] at hob; exact R.lo n o' b hq' hob
  · have hne : (Key.f n) ≠ .l i := fun e => by cases e
    rw [(other (.f n) o' hne hq).2] at hob
    exact R.fo n o' b hq hob

theorem aCall_ok (R : Rel E σ a w I β) {o : Oper} (hd : ∀ i, o.dst = some i → i < E.n) {f : FuncId} {args : List T} {vs : List Value} (hv : All2 (RelT w I β) args vs) {K : St → Prop} {Q : Exit → Act → World → Prop}
    (hrun : Plain P f → (execOp a.eval o).run P w = .ok (.enter f vs.toArray) w) (h : aCall P f args o.dst σ K) : o.wp P a w (Kz E w I σ β false K) Q := by
  rcases h with h | ⟨hn, ⟨S, hc, hk⟩ | ⟨S, hc, hk⟩ | ⟨S, i, hc, hcl, hk⟩ | ⟨S, i, hc, hcl, hk⟩⟩
  · obtain ⟨hp, hc⟩ := h E a w I β vs R hv
    unfold Oper.wp
    rw [hrun hp]
    refine hc.mono ?_
    rintro e w' ⟨v, r, σ', I', β', rfl, R2, hv2, e2, hvar, hk⟩
    refine ⟨_, I', β', R2.put hd hv2, hk, e2, fun j c hj => ?_⟩
    obtain ⟨h1, h2, h3⟩ := hvar j c hj
    exact ⟨fun _ => h1, c, (by cases o.dst <;> exact h2), h3⟩
  · unfold Oper.wp
    rw [hrun hc.1]
    refine (hc.2 w I β vs (R.gd fun b => fun ⟨n, o, h, _⟩ => by simp at h) ⟨⟨fun k o h => by cases k <;> simp [fobj] at h, fun k k' o o' b h => by cases k <;> simp [fobj] at h, R.ob.new⟩, fun n o h => by simp at h⟩ (noLs_ok hn) hv).mono ?_
    rintro e w' ⟨v, r, Fo, I', β', rfl, p⟩
    obtain ⟨rfl, h2, h3⟩ := hk r Fo p.pr
    have hfr : Fr w I (fun _ => False) w' I' := ⟨p.fr.os, p.fr.tape, p.fr.output, p.fr.size, fun b hb _ => p.fr.block b hb (by rintro ⟨n, o, h, _⟩; simp at h)⟩
    have R2 := R.quiet p.ext hfr p.fin.ob.new
    exact ⟨_, I', β, R2.put hd (RelT.mono (Ext.refl w' I') (fun k hk => by rw [h2] at hk; cases hk) p.v), h3, p.ext, fun j c hj => ⟨fun _ => (hfr.block _ (R.var_lt hj) (fun h => h)).1, c, (by cases o.dst <;> exact hj), rfl⟩⟩
  · unfold Oper.wp
    rw [hrun hc.1]
    refine (hc.2 w I β vs (R.gd fun b => fun ⟨n, o, h, hb⟩ => R.fo n o b h hb) R.fin (noLs_ok hn) hv).mono ?_
    rintro e w' ⟨v, r, Fo, I', β', rfl, p⟩
    obtain ⟨R2, hv2⟩ := R.passed p
    refine ⟨_, I', mix β β', R2.put hd hv2, hk r Fo p.pr, p.ext, fun j c hj => ⟨fun _ => (p.fr.block _ (R.var_lt hj) ?_).1, c, (by cases o.dst <;> exact hj), rfl⟩⟩
    rintro ⟨m, o', h3, h4⟩
    have := R.ob.sep (.l j) (.f m) (.var c) o' _ hj h3 rfl h4
    cases this
  · unfold Oper.wp
    rw [hrun hc.1]
    refine (hc.2 w I β vs (R.gd fun b h => h.elim) R.ob.new hv).mono ?_
    rintro e w' ⟨v, r, ob, I', β', rfl, hr, p⟩
    obtain ⟨β3, R2, hv2, hbl⟩ := R.newob (R.clean hcl) p
    refine ⟨_, I', β3, R2.put hd hv2, hk r ob hr, p.ext, fun j c hj => ?_⟩
    have h1 := Rel.var_new (w := w) (β := β) (o := ob) (R.clean hcl) hj
    refine ⟨fun _ => (p.fr.block _ (R.var_lt hj) (fun h => h)).1, c, (by cases o.dst <;> exact h1.1), ?_⟩
    rw [hbl]
    have hne : Key.l j ≠ Key.l i := fun e => ((R.clean hcl).2 (.l j) _ hj).2 e
    exact upd_ne _ _ hne
  · unfold Oper.wp
    rw [hrun hc.1]
    refine (hc.2 w I β vs (R.gd fun b => fun ⟨n, o, h, hb⟩ => R.fo n o b h hb) R.fin (noLs_ok hn) hv).mono ?_
    rintro e w' ⟨v, r, Fo, ob, I', β', γ, rfl, p⟩
    obtain ⟨R2, _⟩ := R.passed p.p
    have hcl2 : ({ σ with F := Fo } : St).Clean (.l i) := by
      have h1 := R.clean hcl
      refine ⟨h1.1, fun k o hk => ?_⟩
      cases k with
      | l n => exact h1.2 (.l n) o hk
      | f n => exact ⟨fun hm => R2.nf n o hk _ hm, fun e => by cases e⟩
    obtain ⟨β3, R3, hv3, hbl⟩ := R2.adopt hcl2 p.ob p.ko (fun b hb => by
      obtain ⟨h1, h2⟩ := p.own b hb
      refine ⟨Nat.le_trans R.fr.size h1, fun k o' hk hob => ?_⟩
      cases k with
      | l n =>
        have : own β (.l n) o' = some b := by rw [← hob]; cases o' <;> rfl
        have := own_lt (R.ob.rel (.l n) o' hk) this
        omega
      | f n => exact h2 ⟨n, o', hk, by rw [← hob]; cases o' <;> rfl⟩)
    refine ⟨_, I', β3, R3.put hd (hv3 r v p.kr p.v), hk r Fo ob p.pr, p.p.ext, fun j c hj => ?_⟩
    have h1 := Rel.var_new (w := w) (β := β) (o := ob) (R.clean hcl) hj
    refine ⟨fun _ => (p.p.fr.block _ (R.var_lt hj) ?_).1, c, (by cases o.dst <;> exact h1.1), ?_⟩
    · rintro ⟨m, o', h3, h4⟩
      have := R.ob.sep (.l j) (.f m) (.var c) o' _ hj h3 rfl h4
      cases this
    · rw [hbl]
      have hne : Key.l j ≠ Key.l i := fun e => ((R.clean hcl).2 (.l j) _ hj).2 e
      exact upd_ne _ _ hne

/-! ### Operations -/
def dstB (n : Nat) : Option Tmp → Bool
  | some i => decide (i < n)
  | none => true

def T.fnOf : T → Option (FuncId × List Key)
  | .fn f ks => some (f, ks)
  | _ => none

def aop (P : Program) (y : Ty) (n : Nat) (o : Oper) (σ : St) (K : St → Prop) : Prop :=
  dstB n o.dst = true ∧ match o.op with
  | .box _ x => opBox σ o.dst (σ.ev x) K
  | .alloc ty => match y.ky ty with
    | some (.sl _) => opBox σ o.dst .nl K
    | _ => match y.Z ty with
      | some z => opBox σ o.dst (.d z) K
      | none => False
  | .store ty p x => o.dst = none ∧ (opStore y σ ty (σ.ev p) (σ.ev x) K ∨ opStoreT y σ ty (σ.ev p) (σ.ev x) K)
  | .buildSlice ty len ps => opSlice y σ o.dst ty len ps.toList K
  | .makeSlice ty l c => opMake y σ o.dst ty (σ.ev l) (σ.ev c) K
  | .convert s t x => (y.Y s).isSome = true ∧ ∃ r, pConv y t (σ.ev x) = some r ∧ K (σ.put o.dst r)
  | .call c => match c.callee with
    | .builtin .append => match c.args.toList, c.argTypes.toList with
      | [s, x], [t, t'] => t' = t ∧ opApp y σ o.dst t (σ.ev s) (σ.frz (σ.ev x)) K
      | _, _ => False
    | .value f => match σ.ev f with
      | .fn g ks => aCall P g ((c.args.toList.map fun x => σ.frz (σ.ev x)) ++ ks.map fun k => .pt k 0) o.dst σ K
      | _ => False
    | _ => ∃ r, pval y σ o.op = some r ∧ K (σ.put o.dst r)
  | _ => ∃ r, pval y σ o.op = some r ∧ K (σ.put o.dst r)

def isSt : Op → Bool
  | .store _ _ _ => true
  | _ => false

theorem gives_ok (R : Rel E σ a w I β) {o : Oper} (hd : ∀ i, o.dst = some i → i < E.n) {x : T} {S : World → Prop} (hS : S w) (g : Gives P S a w I β o x) {K : St → Prop} {Q : Exit → Act → World → Prop} {st : Bool} (h : K (σ.put o.dst x)) : o.wp P a w (Kz E w I σ β st K) Q := by
  obtain ⟨v, hv, hr⟩ := g
  unfold Oper.wp
  rw [hv w hS]
  exact ⟨_, I, β, R.put hd hr, h, Ext.refl w I, fun j c hj => ⟨fun _ => rfl, c, (by cases o.dst <;> exact hj), rfl⟩⟩

theorem All2.app {α β : Type} {R : α → β → Prop} : ∀ {xs xs' : List α} {ys ys' : List β}, All2 R xs ys → All2 R xs' ys' → All2 R (xs ++ xs') (ys ++ ys')
  | [], _, [], _, _, h => h
  | _ :: _, _, _ :: _, _, g, h => ⟨g.1, All2.app g.2 h⟩
  | [], _, _ :: _, _, g, _ => g.elim
  | _ :: _, _, [], _, g, _ => g.elim

theorem Rel.evz (R : Rel E σ a w I β) : ∀ xs : List Operand, All2 (RelT w I β) (xs.map fun x => σ.frz (σ.ev x)) (xs.map a.eval)
  | [] => trivial
  | x :: r => ⟨R.frz (R.ev x), R.evz r⟩

theorem run_enter {o : Oper} {c : Call} {f : Operand} (ho : o.op = .call c) (hc : c.callee = .value f) {g : FuncId} {caps : List Value} (hf : a.eval f = .func (.func g) #[] caps.toArray) (hp : Plain P g) :
    (execOp a.eval o).run P w = .ok (.enter g (c.args.toList.map a.eval ++ caps).toArray) w := by
  obtain ⟨fn, h1, h2, h3⟩ := hp
  unfold execOp
  simp only [ho, resolve, hc, hf, Deferred.ofValue, Sem.run_bind, Sem.run_pure, Result.andThen_ok, invoke, callFunc, run_program, h1, h2, h3, Bool.false_eq_true, if_false]
  congr 2
  exact Array.toList_inj.1 (by simp)
end Go.Proofs.Ytmclamindmnigaa.Ax

namespace Go.Proofs.Ytmclamindmnigaa.Ax
open Go.RowKit
variable {P : Program} {y : Ty} {E : En} {σ : St} {a : Act} {w : World} {I : Im} {β : Be}

theorem aop_ok (hY : TyOk P y) (R : Rel E σ a w I β) {o : Oper} {K : St → Prop} {Q : Exit → Act → World → Prop} (h : aop P y E.n o σ K) : o.wp P a w (Kz E w I σ β (isSt o.op) K) Q := by
  obtain ⟨hd0, h⟩ := h
  have hd : ∀ i, o.dst = some i → i < E.n := fun i hi => by rw [hi] at hd0; simpa [dstB] using hd0
  have plain : ∀ {σ : St} {st : Bool}, Rel E σ a w I β → (∃ r, pval y σ o.op = some r ∧ K (σ.put o.dst r)) → (∀ s d x, o.op = .convert s d x → ∃ u, P.underlying s = some u) → o.wp P a w (Kz E w I σ β st K) Q := fun {σ _} R ⟨r, h1, h2⟩ hcv => gives_ok (S := Stab (fun _ => True) w I σ β) R hd (Stab.refl _ _ _ _ _) (pval_ok (fun _ h => h) hY R h1 (fun _ _ _ _ _ _ => trivial) hcv) h2
  split at h
  · rename_i ty x ho
    rw [ho]
    exact box_ok R hd (R.ev x) (run_box ho) h
  · rename_i ty ho
    rw [show isSt o.op = false by rw [ho]; rfl]
    split at h
    · rename_i e hk
      obtain ⟨i, h1, h2⟩ := hY.zsl ty e hk
      exact box_ok (c := .nl) R hd rfl (run_alloc ho h1 h2) h
    · split at h
      · rename_i z hz
        obtain ⟨i, zv, h1, h2, h3, h4⟩ := hY.zero ty z hz
        exact box_ok (c := .d z) R hd (h4 w I) (run_alloc ho h1 h2) h
      · exact h.elim
  · rename_i ty p x ho
    rw [show isSt o.op = true by rw [ho]; rfl]
    exact h.2.elim (store_ok hY R ho h.1) (storeT_ok hY R ho h.1)
  · rename_i ty len ps ho
    rw [show isSt o.op = false by rw [ho]; rfl]
    exact slice_ok hY R ho hd h
  · rename_i ty l c ho
    rw [show isSt o.op = false by rw [ho]; rfl]
    exact make_ok hY R ho hd h
  · rename_i s t x ho
    obtain ⟨h1, r, h2, h3⟩ := h
    obtain ⟨q, hq⟩ := Option.isSome_iff_exists.1 h1
    refine gives_ok (S := fun _ => True) R hd trivial (pConv_ok hY ho (R.ev x) ?_ h2) h3
    have := hY.kind s q hq
    revert this
    cases q.ky <;> simp only [IsKy] <;> first | exact fun h => ⟨_, h⟩ | exact fun ⟨_, h, _⟩ => ⟨_, h⟩
  · rename_i c ho
    split at h
    · rename_i hcl
      split at h
      · rename_i s x t t' e1 e2
        obtain ⟨rfl, h⟩ := h
        have hc : c = { callee := .builtin .append, args := #[s, x], argTypes := #[t', t'] } := by
          cases c
          simp only at e1 e2 hcl
          congr
          · exact Array.toList_inj.1 (by simpa using e1)
          · exact Array.toList_inj.1 (by simpa using e2)
        rw [hc] at ho
        rw [show isSt o.op = false by rw [ho]; rfl]
        exact app_ok hY R ho hd h
      · exact h.elim
    · rename_i f hcl
      have hf := R.ev f
      split at h
      · rename_i g ks e1
        rw [e1] at hf
        simp only [RelT] at hf
        have hv : All2 (RelT w I β) ((c.args.toList.map fun x => σ.frz (σ.ev x)) ++ ks.map fun k => .pt k 0) (c.args.toList.map a.eval ++ ks.map fun k => .pointer (some ⟨β.blk k, 0, none⟩)) := by
          refine All2.app (R.evz _) ?_
          clear e1 hf h
          induction ks with
          | nil => trivial
          | cons k r ih => exact ⟨rfl, ih⟩
        rw [show isSt o.op = false by rw [ho]; rfl]
        exact aCall_ok R hd hv (fun hp => run_enter ho hcl hf hp) h
      · exact h.elim
    · exact plain R h (fun s d x hx => by rw [ho] at hx; cases hx)
  · rename_i h1 h2 h3 h4 h5 h6 h7
    exact plain R h (fun s d x hx => absurd hx (h6 s d x))

/-! ### Regions -/
def oneOp (P : Program) (y : Ty) (n : Nat) (ops : Array Oper) (o : Oper) (σ : St) (K : St → Prop) : Prop :=
  match o.guard with
  | none => aop P y n o σ K
  | some (j, want) => dstB n o.dst = true ∧ match (ops[j]?).bind (·.dst) with
    | some t => match σ.get t with
      | .d (.b b) => if b = want then aop P y n o σ K else K (σ.put o.dst .un)
      | .un => K (σ.put o.dst .un)
      | _ => False
    | none => False

theorem yielded_of (R : Rel E σ a w I β) {ops : Array Oper} {j t : Nat} (h : (ops[j]?).bind (·.dst) = some t) : (∀ b, σ.get t = .d (.b b) → yielded ops a.tmps j = some b) ∧ (σ.get t = .un → yielded ops a.tmps j = none) := by
  have hr := R.get t
  unfold yielded
  rw [h]
  simp only [Option.bind_some]
  refine ⟨fun b hb => ?_, fun hu => ?_⟩
  · rw [hb] at hr
    have := repD_b hr
    rw [Array.getD_eq_getD_getElem?] at this
    cases hq : a.tmps[t]? with
    | none => rw [hq] at this; simp [undef] at this
    | some v => rw [hq] at this; simp at this; subst this; rfl
  · rw [hu] at hr
    simp only [RelT] at hr
    rw [Array.getD_eq_getD_getElem?] at hr
    cases hq : a.tmps[t]? with
    | none => rfl
    | some v => rw [hq] at hr; simp at hr; subst hr; rfl

theorem oneOp_ok (hY : TyOk P y) (R : Rel E σ a w I β) {ops : Array Oper} {o : Oper} {K : St → Prop} {Q : Exit → Act → World → Prop} (h : oneOp P y E.n ops o σ K) :
    if Region.wanted o (yielded ops a.tmps) then o.wp P a w (Kz E w I σ β (isSt o.op) K) Q else Kz E w I σ β (isSt o.op) K (a.put o.dst undef) w := by
  unfold oneOp at h
  split at h
  · rename_i hg
    rw [if_pos (by simp [Region.wanted, hg])]
    exact aop_ok hY R h
  · rename_i j want hg
    obtain ⟨hd0, h⟩ := h
    have hd : ∀ i, o.dst = some i → i < E.n := fun i hi => by rw [hi] at hd0; simpa [dstB] using hd0
    split at h
    · rename_i t ht
      obtain ⟨y1, y2⟩ := yielded_of R ht
      split at h
      · rename_i b hb
        have hy := y1 b hb
        split at h
        · rename_i hbw
          subst hbw
          rw [if_pos (by simp [Region.wanted, hg, hy])]
          exact aop_ok hY R h
        · rename_i hbw
          rw [if_neg (by simp [Region.wanted, hg, hy, hbw])]
          exact ⟨_, I, β, R.put hd (x := .un) (v := undef) rfl, h, Ext.refl w I, fun j c hj => ⟨fun _ => rfl, c, (by cases o.dst <;> exact hj), rfl⟩⟩
      · rename_i hu
        have hy := y2 hu
        rw [if_neg (by simp [Region.wanted, hg, hy])]
        exact ⟨_, I, β, R.put hd (x := .un) (v := undef) rfl, h, Ext.refl w I, fun j c hj => ⟨fun _ => rfl, c, (by cases o.dst <;> exact hj), rfl⟩⟩
      · exact h.elim
    · exact h.elim

def Qr (E : En) (Q : Exit → St → Prop) : Exit → Act → World → Prop := fun e a w => ∃ σ I β, Rel E σ a w I β ∧ Q e σ

end Go.Proofs.Ytmclamindmnigaa.Ax

namespace Go.Proofs.Ytmclamindmnigaa.Ax
open Go.RowKit
variable {P : Program} {y : Ty} {E : En} {σ : St} {a : Act} {w : World} {I : Im} {β : Be}

theorem wp_loop_n {c : Code} {Q : Exit → Act → World → Prop} (J : Nat → Act → World → Prop) (round : ∀ m a w, J m a w → c.wp P (Exit.then (fun a' w' => ∃ m', m' < m ∧ J m' a' w') Q) a w) :
    ∀ m a w, J m a w → (Code.loop c).wp P Q a w := by
  have key : ∀ m a w, J m a w → ∀ (b : Frame) (k : List Item) (cs : List Frame), ∃ e a' w', Q e a' w' ∧ Arrives P (lone (b.at a (.code c :: .inLoop c :: k)) cs w) b k cs e a' w' := by
    intro m
    induction m using Nat.strongRecOn with
    | _ m ih =>
      intro a w hJ b k cs
      obtain ⟨e, a1, w1, hq, harr⟩ := round m a w hJ b (.inLoop c :: k) cs
      cases e with
      | normal =>
        obtain ⟨m', hlt, hJ'⟩ := hq
        obtain ⟨e2, a2, w2, hq2, harr2⟩ := ih m' hlt a1 w1 hJ' b k cs
        exact ⟨e2, a2, w2, hq2, .of_steps (Steps.trans harr (.one step_inLoop)) harr2⟩
      | exit id => exact ⟨_, a1, w1, hq, .pass (x := .inLoop c) rfl (fun _ _ => .inl (by simp)) harr⟩
      | goto l => exact ⟨_, a1, w1, hq, .pass (x := .inLoop c) rfl (fun _ _ => .inl (by simp)) harr⟩
      | ret => exact ⟨_, a1, w1, hq, .pass (x := .inLoop c) rfl (fun _ _ => .inl (by simp)) harr⟩
      | panic ch => exact ⟨_, a1, w1, hq, .pass (x := .inLoop c) rfl (fun _ _ => .inl (by simp)) harr⟩
      | outgrown => exact ⟨_, a1, w1, hq, .pass (x := .inLoop c) rfl (fun _ _ => .inl (by simp)) harr⟩
  intro m a w hJ b k cs
  obtain ⟨e, a', w', hq, harr⟩ := key m a w hJ b k cs
  exact ⟨e, a', w', hq, .of_steps (.one step_loop) harr⟩

/-! ### A function's body -/
def enumT : Nat → List T → List (Nat × T)
  | _, [] => []
  | k, x :: r => (k, x) :: enumT (k + 1) r

/-- What a result slot hands back. -/
def rv (y : Ty) (σ : St) : ResultVar → Option T
  | .tmp t => some (σ.get t)
  | .cell t ty => match σ.get t with
    | .pt k 0 => pLoad y σ ty (.pt k 0)
    | _ => none

def rvD (y : Ty) (σ : St) (x : ResultVar) : Option D :=
  match (rv y σ x).map σ.frz with
  | some (.d z) => some z
  | _ => none

def aretV (σ : St) (R : T → List Ob → Prop) : T → Prop
  | .rf (.l i) n => match look σ.L i with
    | some (.mr _ _ xs) => n = xs.length ∧ R (.d (.sl xs)) σ.F
    | _ => False
  | x => (σ.frz x).noL = true ∧ R (σ.frz x) σ.F

def aret (y : Ty) (σ : St) (rs : List ResultVar) (R : T → List Ob → Prop) : Prop :=
  match rs with
  | [] => R .un σ.F
  | [x] => match rv y σ x with
    | some t => aretV σ R t
    | none => False
  | [x, z] => (∃ p q, rvD y σ x = some p ∧ rvD y σ z = some q ∧ R (.tu [p, q]) σ.F) ∨ ((rv y σ x).isSome = true ∧ (rv y σ z).isSome = true ∧ R .any σ.F)
  | [x, z, u, v] => ∃ p q s o, rvD y σ x = some p ∧ rvD y σ z = some q ∧ rvD y σ u = some s ∧ rvD y σ v = some o ∧ R (.tu [p, q, s, o]) σ.F
  | _ => False

def retQ (y : Ty) (rs : List ResultVar) (R : T → List Ob → Prop) : Exit → St → Prop
  | .normal, σ => aret y σ rs R
  | .ret, σ => aret y σ rs R
  | _, _ => False

/-- The value of one result. -/
def resOne (tmps : Array Value) : ResultVar → Sem Value
  | .tmp t => pure (tmps.getD t undef)
  | .cell a t => do loadVar t (← asAddr (tmps.getD a undef))

theorem andThen_ok_inv {α β : Type} {r : Result α} {f : α → World → Result β} {z : β} {w' : World} (h : r.andThen f = .ok z w') : ∃ x w1, r = .ok x w1 ∧ f x w1 = .ok z w' := by
  cases r with
  | ok x w1 => exact ⟨x, w1, rfl, h⟩
  | halt h w1 => cases h

theorem rv_ok (hY : TyOk P y) (R : Rel E σ a w I β) {x : ResultVar} {t : T} (h : rv y σ x = some t) : ∃ v, (resOne a.tmps x).run P w = .ok v w ∧ RelT w I β t v := by
  unfold rv at h
  split at h
  · rename_i i
    cases h
    exact ⟨_, rfl, R.get i⟩
  · rename_i i ty
    split at h
    · rename_i k hk
      have hg := R.get i
      rw [hk] at hg
      simp only [RelT] at hg
      obtain ⟨v, hv, hr⟩ := pLoad_ok (P := P) (S := Stab (fun _ => True) w I σ β) (fun _ h => h) hY R (o := { dst := none, op := .load ty (.tmp i), type := ty, pos := "", after := #[], guard := none }) (x := .tmp i) rfl (X := .pt k 0) hg (fun _ _ _ => trivial) h
      have hv := hv w (Stab.refl _ _ _ _ _)
      refine ⟨v, ?_, hr⟩
      unfold execOp at hv
      have he : a.eval (.tmp i) = .pointer (some ⟨β.blk k, 0, none⟩) := hg
      simp only [he, Instr.loadAt, Instr.sureAddr, Sem.run_bind, Sem.run_pure, Result.andThen_ok] at hv
      obtain ⟨x, w1, h1, h2⟩ := andThen_ok_inv hv
      simp only [Result.ok.injEq, Next.value.injEq] at h2
      obtain ⟨rfl, rfl⟩ := h2
      simp only [resOne, hg, asAddr, Sem.run_bind, Sem.run_pure, Result.andThen_ok]
      exact h1
    · cases h

structure Ret (E : En) (R : T → List Ob → Prop) (F : List Ob) (v : Value) (w : World) (r : T) (I' : Im) (β : Be) : Prop where
  pr : R r F
  nr : ∀ k ∈ r.keys, fKey k
  v : RelT w I' β r v
  fin : Fin w I' β F
  ext : Ext E.w E.I w I'
  fr : Fr E.w E.I E.X w I'

theorem Ret.same (R : Rel E σ a w I β) {S : T → List Ob → Prop} {v : Value} {r : T} (h : S r σ.F) (hn : ∀ k ∈ r.keys, fKey k) (hv : RelT w I β r v) : Ret E S σ.F v w r I β :=
  ⟨h, hn, hv, R.fin, R.ext, R.fr⟩

theorem aretV_ok (R : Rel E σ a w I β) {t : T} {v : Value} (hv : RelT w I β t v) {S : T → List Ob → Prop} (h : aretV σ S t) : ∃ r I', Ret E S σ.F v w r I' β := by
  unfold aretV at h
  split at h
  · rename_i i n
    simp only [RelT] at hv
    split at h
    · rename_i e sz xs hk
      obtain ⟨rfl, hS⟩ := h
      obtain ⟨h0, us, h1, h2, h3, h4⟩ := R.ob.rel (.l i) _ hk
      have hlt := own_lt (R.ob.rel (.l i) _ hk) rfl
      have hge := R.lo i _ _ hk rfl
      have hsame : ∀ b, b ≠ β.blk (.l i) → upd I (β.blk (.l i)) us.length b = I b := fun b hb => upd_ne _ _ hb
      have e1 : Ext w I w (upd I (β.blk (.l i)) us.length) := ⟨Nat.le_refl _, fun b => by
        by_cases hb : b = β.blk (.l i)
        · rw [hb, h4]; exact Nat.zero_le _
        · rw [hsame b hb]; exact Nat.le_refl _, fun _ _ _ => rfl⟩
      have f1 : Fr w I (fun b => b = β.blk (.l i)) w (upd I (β.blk (.l i)) us.length) := ⟨rfl, rfl, rfl, Nat.le_refl _, fun b _ hb => ⟨rfl, hsame b hb⟩⟩
      refine ⟨.d (.sl xs), upd I (β.blk (.l i)) us.length, hS, by simp [T.keys], ?_, ⟨⟨fun k o hq => ?_, R.fin.ob.sep, fun b hb => ?_⟩, R.nf⟩, R.ext.trans e1, R.fr.trans f1 (fun b hb _ hq => by subst hq; omega)⟩
      · rw [hv]
        refine repD_of rfl ?_
        simp only [RepC]
        refine ⟨_, xs.length, us, sz, rfl, Nat.le_refl _, RepL.ext e1 h2, h3, .inr ⟨_, rfl, rfl, fun j u hj => ⟨?_, ?_⟩⟩⟩
        · simp only [Nat.zero_add]
          rw [cells_of h1]
          exact hj
        · simp only [upd_eq, Nat.zero_add]
          exact (List.getElem?_eq_some_iff.1 hj).1
      · have hr := R.fin.ob.rel k o hq
        refine (RelO.keep e1 (fun k' _ => ⟨rfl, fun _ _ h => h⟩) (fun _ h => h) (fun b hb => ⟨rfl, hsame b ?_⟩) hr).1
        rintro rfl
        cases k with
        | l m => simp [fobj] at hq
        | f m => have := R.ob.sep (.l i) (.f m) _ o _ hk hq rfl hb; cases this
      · rw [hsame b (by omega)]
        exact R.ob.new b hb
    · exact h.elim
  · exact ⟨_, I, Ret.same R h.2 (T.noL_ok h.1) (R.frz hv)⟩

theorem rvD_ok (hY : TyOk P y) (R : Rel E σ a w I β) {x : ResultVar} {z : D} (h : rvD y σ x = some z) : ∃ v, (resOne a.tmps x).run P w = .ok v w ∧ RepD w I z v := by
  unfold rvD at h
  cases hq : rv y σ x with
  | none => rw [hq] at h; cases h
  | some t =>
    rw [hq] at h
    obtain ⟨v, hv, hr⟩ := rv_ok (P := P) hY R hq
    have hf := R.frz hr
    simp only [Option.map_some] at h
    split at h
    · rename_i z' hz
      cases h
      simp only [Option.some.injEq] at hz
      rw [hz] at hf
      exact ⟨v, hv, hf⟩
    · cases h

theorem results_of {fn : Func} {rs : List ResultVar} (h : fn.results = rs.toArray) (tmps : Array Value) : results fn tmps = (do
    let vs ← rs.toArray.mapM (resOne tmps)
    pure (if h : vs.size = 1 then vs[0] else .tuple vs)) := by
  unfold results
  rw [h]
  congr 2

theorem aret_ok (hY : TyOk P y) (R : Rel E σ a w I β) {fn : Func} {rs : List ResultVar} (hrs : fn.results = rs.toArray) {S : T → List Ob → Prop} (h : aret y σ rs S) : ∃ v r I', (results fn a.tmps).run P w = .ok v w ∧ Ret E S σ.F v w r I' β := by
  rw [results_of hrs]
  unfold aret at h
  split at h
  · exact ⟨undef, .un, I, by simp [undef], Ret.same R h (by simp [T.keys]) rfl⟩
  · rename_i x
    split at h
    · rename_i t ht
      obtain ⟨v, hv, hr⟩ := rv_ok (P := P) hY R ht
      obtain ⟨r, I', hret⟩ := aretV_ok R hr h
      exact ⟨v, r, I', by simp [hv], hret⟩
    · exact h.elim
  · rename_i x z
    rcases h with ⟨p, q, h1, h2, h3⟩ | ⟨h1, h2, h3⟩
    rotate_left
    · obtain ⟨p, h1⟩ := Option.isSome_iff_exists.1 h1
      obtain ⟨q, h2⟩ := Option.isSome_iff_exists.1 h2
      obtain ⟨v1, a1, b1⟩ := rv_ok (P := P) hY R h1
      obtain ⟨v2, a2, b2⟩ := rv_ok (P := P) hY R h2
      exact ⟨.tuple #[v1, v2], .any, I, by simp [a1, a2], Ret.same R h3 (by simp [T.keys]) trivial⟩
    obtain ⟨v1, a1, b1⟩ := rvD_ok (P := P) hY R h1
    obtain ⟨v2, a2, b2⟩ := rvD_ok (P := P) hY R h2
    refine ⟨.tuple #[v1, v2], .tu [p, q], I, by simp [a1, a2], Ret.same R h3 (by simp [T.keys]) ⟨#[v1, v2], rfl, b1, b2, trivial⟩⟩
  · rename_i x1 z1 u1 o1
    obtain ⟨p, q, s, o, h1, h2, h4, h5, h3⟩ := h
    obtain ⟨v1, a1, b1⟩ := rvD_ok (P := P) hY R h1
    obtain ⟨v2, a2, b2⟩ := rvD_ok (P := P) hY R h2
    obtain ⟨v3, a3, b3⟩ := rvD_ok (P := P) hY R h4
    obtain ⟨v4, a4, b4⟩ := rvD_ok (P := P) hY R h5
    refine ⟨.tuple #[v1, v2, v3, v4], .tu [p, q, s, o], I, by simp [a1, a2, a3, a4], Ret.same R h3 (by simp [T.keys]) ⟨#[v1, v2, v3, v4], rfl, b1, b2, b3, b4, trivial⟩⟩
  · exact h.elim

theorem look_enum : ∀ (xs : List T) (vs : List Value) (k i : Nat) (x : T), All2 (RelT w I β) xs vs → look (enumT k xs) i = some x → k ≤ i ∧ ∃ v, vs[i - k]? = some v ∧ RelT w I β x v
  | [], _, _, _, _, _, h => by simp [enumT, look] at h
  | z :: r, [], _, _, _, h, _ => h.elim
  | z :: r, v :: vs, k, i, x, hv, h => by
    simp only [enumT, look] at h
    split at h
    · rename_i hk
      cases h
      subst hk
      exact ⟨Nat.le_refl _, v, by simp, hv.1⟩
    · rename_i hk
      obtain ⟨h1, u, h2, h3⟩ := look_enum r vs (k + 1) i x hv.2 h
      refine ⟨by omega, u, ?_, h3⟩
      rw [show i - k = (i - (k + 1)) + 1 by omega, List.getElem?_cons_succ]
      exact h2

/-- A function's contract, from its body. -/
theorem AC_of' (hY : TyOk P y) {f : FuncId} {fn : Func} {c : Code} {n : Nat} {rs : List ResultVar} {args : List T} {F : List Ob} {R : T → List Ob → Prop} (hf : P.funcs[f]? = some fn) (hb : fn.body = some c) (hn : fn.ntmps = n) (hrs : fn.results = rs.toArray) (hnm : (fn.name == "runtime.NumGoroutine") = false) (hl : args.length ≤ n)
    (h : ∀ E : En, E.n = n → ∀ a w I β, Rel E { t := enumT 0 args, L := [], F := F } a w I β → c.wp P (Qr E (retQ y rs R)) a w) : AC P f args F R := by
  refine ⟨⟨fn, hf, hnm, by rw [hb]; rfl⟩, fun w I β vs hgd hfin hno hv => ?_⟩
  have hlen := hv.len
  let E : En := ⟨w, I, β, XF β F, n, hfin.ob.new, hgd⟩
  let σ : St := { t := enumT 0 args, L := [], F := F }
  let a : Act := { tmps := vs.toArray ++ Array.replicate (fn.ntmps - vs.toArray.size) undef, defers := [] }
  have R0 : Rel E σ a w I β := by
    refine ⟨fun i x hx => ?_, ?_, rfl, ⟨fun k o hk => ?_, fun k k' o o' b h1 h2 h3 h4 => ?_, hfin.ob.new⟩, Ext.refl w I, Fr.refl w I _, Keep.refl _ β, fun n o b h1 => by simp [σ, look] at h1, fun n o b h1 h2 => .inr ⟨n, o, h1, h2⟩, hfin.nf⟩
    · obtain ⟨_, v, h1, h2⟩ := look_enum args vs 0 i x hv hx
      have hi : i < vs.length := (List.getElem?_eq_some_iff.1 (by simpa using h1)).1
      have : a.tmps.getD i undef = v := by
        simp only [a, Array.getD_eq_getD_getElem?]
        rw [Array.getElem?_append_left (by simpa using hi)]
        simpa using congrArg (Option.getD · undef) h1
      rw [this]
      exact h2
    · simp only [a, E, Array.size_append, List.size_toArray, Array.size_replicate, hn]
      omega
    · cases k with
      | l m => simp [σ, St.obj, look] at hk
      | f m => exact hfin.ob.rel (.f m) o hk
    · cases k with
      | l m => simp [σ, St.obj, look] at h1
      | f m => cases k' with
        | l m' => simp [σ, St.obj, look] at h2
        | f m' => exact hfin.ob.sep (.f m) (.f m') o o' b h1 h2 h3 h4
  refine calls_of_wp hf hb (wp_mono (h E rfl a w I β R0) ?_)
  rintro e a' w' ⟨σ', I', β', R', hq⟩
  have fin : ∀ (h : aret y σ' rs R), a'.defers = [] ∧ ∃ v, (results fn a'.tmps).run P w' = .ok v w' ∧ ∃ v_1 r Fo I' β', Ending.returned v = .returned v_1 ∧ Post R w I β F v_1 w' r Fo I' β' := fun h => by
    obtain ⟨v, r, I2, h1, h2⟩ := aret_ok (P := P) hY R' hrs h
    exact ⟨R'.df, v, h1, v, r, σ'.F, I2, β', rfl, ⟨h2.pr, h2.nr, h2.v, h2.fin, h2.ext, h2.fr, R'.kp, R'.fo⟩⟩
  cases e with
  | normal => exact fin hq
  | ret => exact fin hq
  | _ => exact hq.elim

/-! ### A function that hands back a new object -/
def bornV (σ : St) (R : T → Ob → Prop) : T → Prop
  | .pt (.l i) 0 => ∃ o, look σ.L i = some o ∧ o.keys = [] ∧ R (.pt (.f 0) 0) o
  | .rw (.l i) m => ∃ o, look σ.L i = some o ∧ o.keys = [] ∧ R (.rw (.f 0) m) o
  | .nl => ∃ e sz, 0 < sz ∧ R (.rw (.f 0) 0) (.row e sz [])
  | _ => False
def retN (q : Nat) (R : T → Ob → Prop) : Exit → St → Prop
  | .normal, σ => bornV σ R (σ.get q)
  | .ret, σ => bornV σ R (σ.get q)
  | _, _ => False

theorem born_ob (R : Rel E σ a w I β) {i : Nat} {o : Ob} (ho : look σ.L i = some o) (hk : o.keys = []) : ∃ β' : Be, RelO w I β' (.f 0) o ∧ own β' (.f 0) o = own β (.l i) o ∧ β'.blk (.f 0) = β.blk (.l i) ∧ β'.row (.f 0) = β.row (.l i) := by
  refine ⟨β.bk [i], ?_, ?_, rfl, rfl⟩
  · rw [relO_bk, obk_nil hk]; exact R.ob.rel (.l i) o ho
  · rw [own_bk, obk_nil hk]; rfl

theorem bornV_ok (R : Rel E σ a w I β) {t : T} {v : Value} (hv : RelT w I β t v) {S : T → Ob → Prop} (h : bornV σ S t) (hX : ∀ b, ¬ E.X b) : ∃ r o I' β', S r o ∧ NewP E.w E.I v w r o I' β' := by
  have fr : Fr E.w E.I (fun _ => False) w I := ⟨R.fr.os, R.fr.tape, R.fr.output, R.fr.size, fun b hb _ => R.fr.block b hb (hX b)⟩
  unfold bornV at h
  split at h
  · rename_i i
    obtain ⟨o, ho, hk, hS⟩ := h
    obtain ⟨β', h1, h2, h3, h4⟩ := born_ob R ho hk
    refine ⟨_, o, I, β', hS, ?_, h1, (by simp [T.keys]), hk, fun b hb => R.lo i o b ho (h2 ▸ hb), R.ext, fr, R.ob.new⟩
    simp only [RelT] at hv ⊢
    rw [h3]; exact hv
  · rename_i i m
    obtain ⟨o, ho, hk, hS⟩ := h
    obtain ⟨β', h1, h2, h3, h4⟩ := born_ob R ho hk
    refine ⟨_, o, I, β', hS, ?_, h1, (by simp [T.keys]), hk, fun b hb => R.lo i o b ho (h2 ▸ hb), R.ext, fr, R.ob.new⟩
    simp only [RelT] at hv ⊢
    rw [h4]; exact hv
  · obtain ⟨e, sz, h0, hS⟩ := h
    simp only [RelT] at hv
    subst hv
    refine ⟨_, _, I, ⟨β.blk, fun _ => hist 0 (.slice none 0 0)⟩, hS, rfl, ⟨h0, .slice none 0 0, [], rfl, World.ownsRow_nil w 0 e sz, by simp only [RepL], by simp, fun b hb => by simp [Value.ownBlock] at hb, fun j hj => ?_⟩, (by simp [T.keys]), rfl, fun b hb => ?_, R.ext, fr, R.ob.new⟩
    · simp only [hist]; rw [if_neg (by simp at hj; omega)]
    · simp [own, hist, Value.ownBlock] at hb
  · exact h.elim

theorem AN_of {f : FuncId} {fn : Func} {c : Code} {n q : Nat} {args : List T} {R : T → Ob → Prop} (hf : P.funcs[f]? = some fn) (hb : fn.body = some c) (hn : fn.ntmps = n) (hrs : fn.results = [ResultVar.tmp q].toArray) (hnm : (fn.name == "runtime.NumGoroutine") = false) (hl : args.length ≤ n)
    (h : ∀ E : En, E.n = n → ∀ a w I β, Rel E { t := enumT 0 args, L := [], F := [] } a w I β → c.wp P (Qr E (retN q R)) a w) : AN P f args R := by
  refine ⟨⟨fn, hf, hnm, by rw [hb]; rfl⟩, fun w I β vs hgd hnew hv => ?_⟩
  have hlen := hv.len
  let E : En := ⟨w, I, β, fun _ => False, n, hnew, hgd⟩
  let σ : St := { t := enumT 0 args, L := [], F := [] }
  let a : Act := { tmps := vs.toArray ++ Array.replicate (fn.ntmps - vs.toArray.size) undef, defers := [] }
  have noF : ∀ k o, σ.obj k ≠ some o := fun k o => by cases k <;> simp [σ, St.obj, look]
  have R0 : Rel E σ a w I β := by
    refine ⟨fun i x hx => ?_, ?_, rfl, ⟨fun k o hk => absurd hk (noF k o), fun k k' o o' b h1 h2 h3 h4 => absurd h1 (noF k o), hnew⟩, Ext.refl w I, Fr.refl w I _, Keep.refl _ β, fun n o b h1 => by simp [σ, look] at h1, fun n o b h1 h2 => by simp [σ] at h1, fun n o h1 => by simp [σ] at h1⟩
    · obtain ⟨_, v, h1, h2⟩ := look_enum args vs 0 i x hv hx
      have hi : i < vs.length := (List.getElem?_eq_some_iff.1 (by simpa using h1)).1
      have : a.tmps.getD i undef = v := by
        simp only [a, Array.getD_eq_getD_getElem?]
        rw [Array.getElem?_append_left (by simpa using hi)]
        simpa using congrArg (Option.getD · undef) h1
      rw [this]
      exact h2
    · simp only [a, E, Array.size_append, List.size_toArray, Array.size_replicate, hn]
      omega
  refine calls_of_wp hf hb (wp_mono (h E rfl a w I β R0) ?_)
  rintro e a' w' ⟨σ', I', β', R', hq⟩
  have fin : ∀ (h : bornV σ' R (σ'.get q)), a'.defers = [] ∧ ∃ v, (results fn a'.tmps).run P w' = .ok v w' ∧ ∃ v_1 r o I' β', Ending.returned v = .returned v_1 ∧ R r o ∧ NewP w I v_1 w' r o I' β' := fun h => by
    obtain ⟨r, o, I2, β2, h1, h2⟩ := bornV_ok R' (R'.get q) h (fun _ h => h)
    refine ⟨R'.df, _, ?_, _, r, o, I2, β2, rfl, h1, h2⟩
    rw [results_of hrs]
    simp [resOne]
  cases e with
  | normal => exact fin hq
  | ret => exact fin hq
  | _ => exact hq.elim

/-! ### A function that hands back the foreign objects and a new one -/
def bornM (σ : St) (R : T → List Ob → Ob → Prop) : T → Prop
  | .rw (.l i) m => ∃ o, look σ.L i = some o ∧ o.keys = [] ∧ R (.rw (.f 0) m) σ.F o
  | .dt x (.l i) m off => ∃ o, look σ.L i = some o ∧ o.keys = [] ∧ R (.dt x (.f 0) m off) σ.F o
  | _ => False
def retM (y : Ty) (x : ResultVar) (R : T → List Ob → Ob → Prop) : Exit → St → Prop
  | .normal, σ => ∃ t, rv y σ x = some t ∧ bornM σ R t
  | .ret, σ => ∃ t, rv y σ x = some t ∧ bornM σ R t
  | _, _ => False

theorem AM_of (hY : TyOk P y) {f : FuncId} {fn : Func} {c : Code} {n : Nat} {x : ResultVar} {args : List T} {F : List Ob} {R : T → List Ob → Ob → Prop} (hf : P.funcs[f]? = some fn) (hb : fn.body = some c) (hn : fn.ntmps = n) (hrs : fn.results = [x].toArray) (hnm : (fn.name == "runtime.NumGoroutine") = false) (hl : args.length ≤ n)
    (h : ∀ E : En, E.n = n → ∀ a w I β, Rel E { t := enumT 0 args, L := [], F := F } a w I β → c.wp P (Qr E (retM y x R)) a w) : AM P f args F R := by
  refine ⟨⟨fn, hf, hnm, by rw [hb]; rfl⟩, fun w I β vs hgd hfin hno hv => ?_⟩
  have hlen := hv.len
  let E : En := ⟨w, I, β, XF β F, n, hfin.ob.new, hgd⟩
  let σ : St := { t := enumT 0 args, L := [], F := F }
  let a : Act := { tmps := vs.toArray ++ Array.replicate (fn.ntmps - vs.toArray.size) undef, defers := [] }
  have R0 : Rel E σ a w I β := by
    refine ⟨fun i x hx => ?_, ?_, rfl, ⟨fun k o hk => ?_, fun k k' o o' b h1 h2 h3 h4 => ?_, hfin.ob.new⟩, Ext.refl w I, Fr.refl w I _, Keep.refl _ β, fun n o b h1 => by simp [σ, look] at h1, fun n o b h1 h2 => .inr ⟨n, o, h1, h2⟩, hfin.nf⟩
    · obtain ⟨_, v, h1, h2⟩ := look_enum args vs 0 i x hv hx
      have hi : i < vs.length := (List.getElem?_eq_some_iff.1 (by simpa using h1)).1
      have : a.tmps.getD i undef = v := by
        simp only [a, Array.getD_eq_getD_getElem?]
        rw [Array.getElem?_append_left (by simpa using hi)]
        simpa using congrArg (Option.getD · undef) h1
      rw [this]
      exact h2
    · simp only [a, E, Array.size_append, List.size_toArray, Array.size_replicate, hn]
      omega
    · cases k with
      | l m => simp [σ, St.obj, look] at hk
      | f m => exact hfin.ob.rel (.f m) o hk
    · cases k with
      | l m => simp [σ, St.obj, look] at h1
      | f m => cases k' with
        | l m' => simp [σ, St.obj, look] at h2
        | f m' => exact hfin.ob.sep (.f m) (.f m') o o' b h1 h2 h3 h4
  refine calls_of_wp hf hb (wp_mono (h E rfl a w I β R0) ?_)
  rintro e a' w' ⟨σ', I', β', R', hq⟩
  have fin : ∀ (h : ∃ t, rv y σ' x = some t ∧ bornM σ' R t), a'.defers = [] ∧ ∃ v, (results fn a'.tmps).run P w' = .ok v w' ∧ ∃ v_1 r Fo o I' β' γ, Ending.returned v = .returned v_1 ∧ PostN R w I β F v_1 w' r Fo o I' β' γ := fun ⟨t, ht, h⟩ => by
    obtain ⟨v, hv, hr⟩ := rv_ok (P := P) hY R' ht
    have hp : Post (fun _ _ => True) w I β F v w' .any σ'.F I' β' := ⟨trivial, by simp [T.keys], trivial, R'.fin, R'.ext, R'.fr, R'.kp, R'.fo⟩
    have hres : (results fn a'.tmps).run P w' = .ok v w' := by
      rw [results_of hrs]
      simp [hv]
    have hown : ∀ (i : Nat) (o : Ob) (β2 : Be), look σ'.L i = some o → own β2 (.f 0) o = own β' (.l i) o → ∀ b, own β2 (.f 0) o = some b → w.heap.size ≤ b ∧ ¬ XF β' σ'.F b := fun i o β2 ho h2 b hb => by
      rw [h2] at hb
      refine ⟨R'.lo i o b ho hb, ?_⟩
      rintro ⟨m, o', h3, h4⟩
      have := R'.ob.sep (.l i) (.f m) o o' b ho h3 hb h4
      cases this
    unfold bornM at h
    split at h
    · rename_i i m
      obtain ⟨o, ho, hk, hS⟩ := h
      obtain ⟨β2, h1, h2, h3, h4⟩ := born_ob R' ho hk
      refine ⟨R'.df, v, hres, v, _, _, o, I', β', β2, rfl, ⟨hS, hp, ?_, h1, by simp [T.keys], hk, hown i o β2 ho h2⟩⟩
      simp only [RelT] at hr ⊢
      rw [h4]; exact hr
    · rename_i z i m off
      obtain ⟨o, ho, hk, hS⟩ := h
      obtain ⟨β2, h1, h2, h3, h4⟩ := born_ob R' ho hk
      refine ⟨R'.df, v, hres, v, _, _, o, I', β', β2, rfl, ⟨hS, hp, ?_, h1, by simp [T.keys], hk, hown i o β2 ho h2⟩⟩
      simp only [RelT] at hr ⊢
      rw [h4]; exact hr
    · exact h.elim
  cases e with
  | normal => exact fin hq
  | ret => exact fin hq
  | _ => exact hq.elim
end Go.Proofs.Ytmclamindmnigaa.Ax

namespace Go.Proofs.Ytmclamindmnigaa.Ax
open Go.RowKit
variable {P : Program}

def infoB (P : Program) (t : TypeId) (r : Yr) : Bool :=
  match P.info? t with
  | some i => i.size == r.sz && i.bytes == r.by_
  | none => false
def kyB (P : Program) (t : TypeId) : Ky → Bool
  | .bo => match P.underlying t with
    | some .bool => true
    | _ => false
  | .nu k => match P.underlying t with
    | some (.int k') => decide (k' = k)
    | _ => false
  | .st => match P.underlying t with
    | some .string => true
    | _ => false
  | .sl e => match P.underlying t with
    | some (.slice e') => e' == e
    | _ => false
  | .ag fs => match P.underlying t with
    | some (.struct fields) => (fields.toList.mapM (fun f => (P.info? f.type).map fun i => (f.offset, i.size))) == some fs && fs.all (fun q => q.2 != 0)
    | _ => false
  | .ar n e => match P.underlying t with
    | some (.array n' e') => n' == n && e' == e
    | _ => false
  | .ot => match P.underlying t with
    | some (.struct _) => false
    | some (.array _ _) => false
    | some _ => true
    | none => false
def zslB (P : Program) (t : TypeId) : Ky → Bool
  | .sl _ => match P.info? t with
    | some i => match i.zero with
      | some (.slice none 0 0) => true
      | _ => false
    | none => false
  | _ => true
mutual
def zok : D → List Value → Bool
  | .b x, us => match us with
    | [.bool z] => x == z
    | _ => false
  | .i k n, us => match us with
    | [.int k' m] => decide (k = k') && decide (n = m)
    | _ => false
  | .s x, us => match us with
    | [.string z] => decide (x.data = z.data)
    | _ => false
  | .sl xs, us => match xs, us with
    | [], [.slice none 0 0] => true
    | _, _ => false
  | .ag xs, us => zokL xs us
def zokL : List D → List Value → Bool
  | [], us => us.isEmpty
  | x :: r, us => zok x (us.take x.size) && zokL r (us.drop x.size)
end
def zeroB (P : Program) (t : TypeId) (x : D) : Bool :=
  match P.info? t with
  | some i => match i.zero with
    | some z => x.size == i.size && zok x z.cells.toList && (match z with
      | .agg _ => x.isAg
      | _ => !x.isAg && z.oneCell')
    | none => false
  | none => false

mutual
theorem zok_ok {w : World} {I : Im} : ∀ {x : D} {us : List Value}, zok x us = true → RepC w I x us
  | .b x, us, h => by
    simp only [zok] at h
    split at h
    · simp only [RepC]; simp_all
    · cases h
  | .i k n, us, h => by
    simp only [zok] at h
    split at h
    · simp only [RepC]; simp_all
    · cases h
  | .s x, us, h => by
    simp only [zok] at h
    split at h
    · rename_i z
      simp only [RepC]
      have : x = z := by
        cases x; cases z; simpa using h
      rw [this]
    · cases h
  | .sl xs, us, h => by
    simp only [zok] at h
    split at h
    · simp only [RepC]
      exact ⟨none, 0, [], 1, rfl, by simp, rfl, by simp, .inl trivial⟩
    · cases h
  | .ag xs, us, h => by
    simp only [zok] at h
    simp only [RepC]
    exact zokL_ok h
theorem zokL_ok {w : World} {I : Im} : ∀ {xs : List D} {us : List Value}, zokL xs us = true → RepL w I xs us
  | [], us, h => by
    simp only [zokL] at h
    simp only [RepL]
    simpa using h
  | x :: r, us, h => by
    simp only [zokL, Bool.and_eq_true] at h
    simp only [RepL]
    exact ⟨us.take x.size, us.drop x.size, by simp, zok_ok h.1, zokL_ok h.2⟩
end

theorem mapM_nth {α β : Type} {g : α → Option β} : ∀ {l : List α} {fs : List β}, l.mapM g = some fs → ∀ (j : Nat) (q : β), fs[j]? = some q → ∃ f, l[j]? = some f ∧ g f = some q
  | [], fs, h, j, q, hq => by simp at h; subst h; simp at hq
  | x :: r, fs, h, j, q, hq => by
    simp only [List.mapM_cons, Option.bind_eq_bind, Option.pure_def] at h
    cases h1 : g x with
    | none => simp [h1] at h
    | some z =>
      cases h2 : r.mapM g with
      | none => simp [h1, h2] at h
      | some zs =>
        simp [h1, h2] at h
        subst h
        cases j with
        | zero => simp at hq; subst hq; exact ⟨x, rfl, h1⟩
        | succ j => simpa using mapM_nth h2 j q (by simpa using hq)

def tyB (P : Program) (tab : List (Nat × Yr)) (zt : List (Nat × D)) : Bool :=
  tab.all (fun p => infoB P p.1 p.2 && kyB P p.1 p.2.ky && zslB P p.1 p.2.ky) && zt.all fun p => zeroB P p.1 p.2

theorem look_mem {α : Type} : ∀ {l : List (Nat × α)} {i : Nat} {v : α}, look l i = some v → (i, v) ∈ l
  | [], _, _, h => by simp [look] at h
  | (k, z) :: r, i, v, h => by
    simp only [look] at h
    split at h
    · rename_i hk; cases h; subst hk; simp
    · exact List.mem_cons_of_mem _ (look_mem h)

theorem tyOk_of {tab : List (Nat × Yr)} {zt : List (Nat × D)} (h : tyB P tab zt = true) : TyOk P ⟨look tab, look zt⟩ := by
  simp only [tyB, Bool.and_eq_true, List.all_eq_true] at h
  obtain ⟨h1, h2⟩ := h
  refine ⟨fun t r hr => ?_, fun t r hr => ?_, fun t e hk => ?_, fun t x hx => ?_⟩
  · have := (h1 _ (look_mem hr)).1.1
    unfold infoB at this
    split at this
    · rename_i i hi
      simp only [Bool.and_eq_true, beq_iff_eq] at this
      exact ⟨i, hi, this.1, this.2⟩
    · cases this
  · have := (h1 _ (look_mem hr)).1.2
    simp only at this
    cases hk : r.ky with
    | ag fs =>
      rw [hk] at this
      simp only [kyB] at this
      split at this
      · rename_i fields hu
        simp only [Bool.and_eq_true, beq_iff_eq, List.all_eq_true, bne_iff_ne] at this
        refine ⟨fields, hu, this.1, fun j q hq => ⟨this.2 q (List.mem_of_getElem? hq), ?_⟩⟩
        obtain ⟨f, hf, hg⟩ := mapM_nth this.1 j q hq
        cases hi : P.info? f.type with
        | none => rw [hi] at hg; cases hg
        | some i =>
          rw [hi] at hg
          simp only [Option.map_some, Option.some.injEq] at hg
          subst hg
          exact ⟨f, by simpa using hf, rfl, i, hi, rfl⟩
      · cases this
    | ot =>
      rw [hk] at this
      simp only [kyB] at this
      split at this
      · cases this
      · cases this
      · rename_i d n1 n2 hu
        exact ⟨_, hu, fun fs e => n1 fs (by rw [← e]), fun n e' e => n2 n e' (by rw [← e])⟩
      · cases this
    | _ =>
      rw [hk] at this
      simp only [kyB] at this
      split at this
      · simp_all [IsKy]
      · cases this
  · unfold Ty.ky at hk
    cases hr : look tab t with
    | none => simp [hr] at hk
    | some r =>
      simp [hr] at hk
      have := (h1 _ (look_mem hr)).2
      rw [hk] at this
      simp only [zslB] at this
      split at this
      · rename_i i hi
        split at this
        · rename_i hz; exact ⟨i, hi, hz⟩
        · cases this
      · cases this
  · have := h2 _ (look_mem hx)
    unfold zeroB at this
    split at this
    · rename_i i hi
      split at this
      · rename_i z hz
        simp only [Bool.and_eq_true, beq_iff_eq] at this
        obtain ⟨⟨a1, a2⟩, a3⟩ := this
        refine ⟨i, z, hi, hz, a1, fun w I => ⟨zok_ok a2, ?_⟩⟩
        split at a3
        · exact .inl ⟨a3, _, rfl⟩
        · simp only [Bool.and_eq_true, Bool.not_eq_true'] at a3
          exact .inr a3
      · cases this
    · cases this
end Go.Proofs.Ytmclamindmnigaa.Ax

namespace Go.Proofs.Ytmclamindmnigaa.Ax
open Go.RowKit
variable {P : Program} {y : Ty} {n : Nat}

/-- σ says at least what τ says. -/
def Wk (n : Nat) (σ τ : St) : Prop := ∀ E : En, E.n = n → ∀ a w I β, Rel E σ a w I β → ∃ β', Rel E τ a w I β'

def Sc (P : Program) (n : Nat) (c : Code) (Q : Exit → St → Prop) (σ : St) : Prop := ∀ E : En, E.n = n → ∀ a w I β, Rel E σ a w I β → c.wp P (Qr E Q) a w
def So (P : Program) (n : Nat) (ops : Array Oper) (l : List Oper) (Q : Exit → St → Prop) (σ : St) : Prop := ∀ E : En, E.n = n → ∀ a w I β, Rel E σ a w I β → wpList P ops (Qr E Q) l a w

/-- What stands behind the code. -/
inductive Kf where
  | seq (c : Code)
  | blk (id : Nat)
  | lp (J : Nat → St → Prop) (m : Nat)

def Sk (P : Program) (n : Nat) (Q : Exit → St → Prop) : List Kf → Exit → St → Prop
  | [], e, σ => Q e σ
  | .seq c :: k, e, σ => match e with
    | .normal => Sc P n c (Sk P n Q k) σ
    | e => Sk P n Q k e σ
  | .blk id :: k, e, σ => match e with
    | .exit j => if j = id then Sk P n Q k .normal σ else Sk P n Q k (.exit j) σ
    | e => Sk P n Q k e σ
  | .lp J m :: k, e, σ => match e with
    | .normal => ∃ m' τ, m' < m ∧ Wk n σ τ ∧ J m' τ
    | e => Sk P n Q k e σ

theorem Sc.wk {c : Code} {Q : Exit → St → Prop} {σ τ : St} (h : Sc P n c Q τ) (hw : Wk n σ τ) : Sc P n c Q σ := fun E hE a w I β R => have ⟨β', R'⟩ := hw E hE a w I β R; h E hE a w I β' R'
theorem So.wk {ops : Array Oper} {l : List Oper} {Q : Exit → St → Prop} {σ τ : St} (h : So P n ops l Q τ) (hw : Wk n σ τ) : So P n ops l Q σ := fun E hE a w I β R => have ⟨β', R'⟩ := hw E hE a w I β R; h E hE a w I β' R'

section code
variable {Q : Exit → St → Prop} {k : List Kf} {σ : St}

theorem s_seq {x z : Code} (h : Sc P n x (Sk P n Q (.seq z :: k)) σ) : Sc P n (.seq x z) (Sk P n Q k) σ := fun E hE a w I β R => by
  refine wp_seq (wp_mono (h E hE a w I β R) ?_)
  rintro e a' w' ⟨σ', I', β', R', h'⟩
  cases e with
  | normal => exact h' E hE a' w' I' β' R'
  | _ => exact ⟨σ', I', β', R', h'⟩
theorem s_block {id : Nat} {c : Code} (h : Sc P n c (Sk P n Q (.blk id :: k)) σ) : Sc P n (.block id c) (Sk P n Q k) σ := fun E hE a w I β R => by
  refine wp_block (wp_mono (h E hE a w I β R) ?_)
  rintro e a' w' ⟨σ', I', β', R', h'⟩
  cases e with
  | exit j =>
    simp only [Exit.inBlock]
    simp only [Sk] at h'
    split
    · rename_i hj
      rw [if_pos hj] at h'
      exact ⟨σ', I', β', R', h'⟩
    · rename_i hj
      rw [if_neg hj] at h'
      exact ⟨σ', I', β', R', h'⟩
  | _ => exact ⟨σ', I', β', R', h'⟩
theorem s_skip (h : Sk P n Q k .normal σ) : Sc P n .skip (Sk P n Q k) σ := fun E hE a w I β R => wp_skip ⟨σ, I, β, R, h⟩
theorem s_exit {id : Nat} (h : Sk P n Q k (.exit id) σ) : Sc P n (.exit id) (Sk P n Q k) σ := fun E hE a w I β R => wp_exit ⟨σ, I, β, R, h⟩
theorem sk_ret : ∀ {k : List Kf}, Q .ret σ → Sk P n Q k .ret σ
  | [], h => h
  | .seq _ :: k, h => sk_ret (k := k) h
  | .blk _ :: k, h => sk_ret (k := k) h
  | .lp _ _ :: k, h => sk_ret (k := k) h
theorem s_ret (h : Q .ret σ) : Sc P n .ret (Sk P n Q k) σ := fun E hE a w I β R => wp_ret ⟨σ, I, β, R, sk_ret h⟩
-- behind the code
theorem n_seq {c : Code} (h : Sc P n c (Sk P n Q k) σ) : Sk P n Q (.seq c :: k) .normal σ := h
theorem n_blk {id : Nat} (h : Sk P n Q k .normal σ) : Sk P n Q (.blk id :: k) .normal σ := h
theorem n_nil (h : Q .normal σ) : Sk P n Q [] .normal σ := h
theorem n_lp {J : Nat → St → Prop} {m : Nat} {τ : St} (m' : Nat) (h : J m' τ) (hm : m' < m) (hw : Wk n σ τ) : Sk P n Q (.lp J m :: k) .normal σ := ⟨m', τ, hm, hw, h⟩
theorem e_seq {c : Code} {j : Nat} (h : Sk P n Q k (.exit j) σ) : Sk P n Q (.seq c :: k) (.exit j) σ := h
theorem e_lp {J : Nat → St → Prop} {m j : Nat} (h : Sk P n Q k (.exit j) σ) : Sk P n Q (.lp J m :: k) (.exit j) σ := h
theorem e_blk {id : Nat} (h : Sk P n Q k .normal σ) : Sk P n Q (.blk id :: k) (.exit id) σ := by
  simp only [Sk, if_true]; exact h
theorem e_blk' {id j : Nat} (hj : (j == id) = false) (h : Sk P n Q k (.exit j) σ) : Sk P n Q (.blk id :: k) (.exit j) σ := by
  simp only [Sk]
  rw [if_neg (by simpa using hj)]
  exact h

theorem s_loop {c : Code} (J : Nat → St → Prop) (m : Nat) {τ : St} (h0 : J m τ) (hw : Wk n σ τ) (hr : ∀ m τ, J m τ → Sc P n c (Sk P n Q (.lp J m :: k)) τ) : Sc P n (.loop c) (Sk P n Q k) σ := fun E hE a w I β R => by
  obtain ⟨β0, R0⟩ := hw E hE a w I β R
  refine wp_loop_n (J := fun m a w => ∃ σ I β, Rel E σ a w I β ∧ J m σ) ?_ m a w ⟨τ, I, β0, R0, h0⟩
  rintro m a w ⟨σ, I, β, R, hJ⟩
  refine wp_mono (hr m σ hJ E hE a w I β R) ?_
  rintro e a' w' ⟨σ', I', β', R', h'⟩
  cases e with
  | normal =>
    obtain ⟨m', τ', hlt, hw', hJ'⟩ := h'
    obtain ⟨β2, R2⟩ := hw' E hE a' w' I' β' R'
    exact ⟨m', hlt, τ', I', β2, R2, hJ'⟩
  | _ => exact ⟨σ', I', β', R', h'⟩

theorem s_cond {c : Operand} {x z : Code} {b : Bool} (hc : σ.ev c = .d (.b b)) (h1 : b = true → Sc P n x (Sk P n Q k) σ) (h2 : b = false → Sc P n z (Sk P n Q k) σ) : Sc P n (.cond c x z) (Sk P n Q k) σ := fun E hE a w I β R => by
  have hv := R.ev c
  rw [hc] at hv
  refine wp_cond (repD_b hv) ?_
  cases b with
  | true => exact h1 rfl E hE a w I β R
  | false => exact h2 rfl E hE a w I β R
theorem s_ct {c : Operand} {x z : Code} (hc : σ.ev c = .d (.b true)) (h : Sc P n x (Sk P n Q k) σ) : Sc P n (.cond c x z) (Sk P n Q k) σ := s_cond hc (fun _ => h) (fun h => by cases h)
theorem s_cf {c : Operand} {x z : Code} (hc : σ.ev c = .d (.b false)) (h : Sc P n z (Sk P n Q k) σ) : Sc P n (.cond c x z) (Sk P n Q k) σ := s_cond hc (fun h => by cases h) (fun _ => h)

theorem s_reg {id : Nat} {l : List Oper} (h : So P n l.toArray l (Sk P n Q k) σ) : Sc P n (.region id l.toArray false) (Sk P n Q k) σ := fun E hE a w I β R => wp_region_lit (h E hE a w I β R)
theorem s_end {ops : Array Oper} (h : Sk P n Q k .normal σ) : So P n ops [] (Sk P n Q k) σ := fun E hE a w I β R => ⟨σ, I, β, R, h⟩
end code

section ops
variable {Q : Exit → St → Prop} {k : List Kf} {ops : Array Oper} {r : List Oper}

theorem So.of_aop (hY : TyOk P y) {o : Oper} {σ : St} (hg : o.guard = none) (h : aop P y n o σ (So P n ops r Q)) : So P n ops (o :: r) Q σ := fun E hE a w I β R => by
  subst hE
  refine wpList_plain hg fun K hK => ?_
  exact Oper.wp_mono (fun a' w' ⟨σ', I', β', R', h', _⟩ => hK _ _ (h' E rfl a' w' I' β' R')) (aop_ok hY R h)

def quietOp : Op → Bool
  | .move _ => true
  | .assign _ => true
  | .pick _ _ _ => true
  | .binOp _ _ _ _ _ => true
  | .unOp _ _ _ => true
  | .build _ _ => true
  | .fieldAddr _ _ _ => true
  | .load _ _ => true
  | .indexAddr _ _ _ => true
  | .index _ _ _ => true
  | .extract _ _ => true
  | .nilCheck _ => true
  | .makeFunc _ _ _ => true
  | .call c => match c.callee with
    | .builtin .len => true
    | _ => false
  | _ => false

variable {t : List (Nat × T)} {L : List (Nat × Ob)} {F : List Ob} {i : Nat} {ty : TypeId} {pos : String} {af : Array Edge}

theorem s_v (hY : TyOk P y) {op : Op} {v : T} (hv : pval y ⟨t, L, F⟩ op = some v) (hq : quietOp op = true) (hi : dstB n (some i) = true) (h : So P n ops r Q ⟨(i, v) :: t, L, F⟩) : So P n ops (⟨some i, op, ty, pos, af, none⟩ :: r) Q ⟨t, L, F⟩ := by
  refine So.of_aop hY rfl ⟨hi, ?_⟩
  have hh : ∃ r', pval y ⟨t, L, F⟩ op = some r' ∧ So P n ops r Q ((⟨t, L, F⟩ : St).put (some i) r') := ⟨v, hv, h⟩
  cases op <;> first | exact hh | (simp [quietOp] at hq; done) | skip
  rename_i c
  simp only [quietOp] at hq
  split at hq
  · rename_i hcl
    simp only [hcl]
    exact hh
  · cases hq

theorem s_box (hY : TyOk P y) {tt : TypeId} {x : Operand} {c : T} (hx : (⟨t, L, F⟩ : St).ev x = c) (hc : (⟨t, L, F⟩ : St).cont c = some c) (hcl : (⟨t, L, F⟩ : St).cleanB i = true) (hh : c.hasL i = false) (hi : dstB n (some i) = true)
    (h : So P n ops r Q ⟨(i, .pt (.l i) 0) :: t, (i, .var c) :: L, F⟩) : So P n ops (⟨some i, .box tt x, ty, pos, af, none⟩ :: r) Q ⟨t, L, F⟩ :=
  So.of_aop hY rfl ⟨hi, hcl, by rw [hx]; exact hh, c, by rw [hx]; exact hc, h⟩
theorem s_alz (hY : TyOk P y) {tt : TypeId} {ky : Ky} {z : D} (hk : y.ky tt = some ky) (hns : ∀ e, ky ≠ .sl e) (hz : y.Z tt = some z) (hcl : (⟨t, L, F⟩ : St).cleanB i = true) (hi : dstB n (some i) = true)
    (h : So P n ops r Q ⟨(i, .pt (.l i) 0) :: t, (i, .var (.d z)) :: L, F⟩) : So P n ops (⟨some i, .alloc tt, ty, pos, af, none⟩ :: r) Q ⟨t, L, F⟩ := by
  refine So.of_aop hY rfl ⟨hi, ?_⟩
  simp only [hk, hz]
  split
  · rename_i e he; cases he; exact absurd rfl (hns e)
  · exact ⟨hcl, rfl, _, rfl, h⟩
theorem s_als (hY : TyOk P y) {tt e : TypeId} (hk : y.ky tt = some (.sl e)) (hcl : (⟨t, L, F⟩ : St).cleanB i = true) (hi : dstB n (some i) = true)
    (h : So P n ops r Q ⟨(i, .pt (.l i) 0) :: t, (i, .var .nl) :: L, F⟩) : So P n ops (⟨some i, .alloc tt, ty, pos, af, none⟩ :: r) Q ⟨t, L, F⟩ := by
  refine So.of_aop hY rfl ⟨hi, ?_⟩
  simp only [hk]
  exact ⟨hcl, rfl, _, rfl, h⟩
theorem s_cv (hY : TyOk P y) {s d : TypeId} {x : Operand} {v : T} (hs : (y.Y s).isSome = true) (hv : pConv y d ((⟨t, L, F⟩ : St).ev x) = some v) (hi : dstB n (some i) = true) (h : So P n ops r Q ⟨(i, v) :: t, L, F⟩) : So P n ops (⟨some i, .convert s d x, ty, pos, af, none⟩ :: r) Q ⟨t, L, F⟩ :=
  So.of_aop hY rfl ⟨hi, hs, v, hv, h⟩
/-- A store into a variable of the call's own that holds data. -/
theorem s_st (hY : TyOk P y) {tt : TypeId} {p x : Operand} {rr : Yr} {j off : Nat} {z z' z2 : D} (hr : y.Y tt = some rr) (hp : (⟨t, L, F⟩ : St).ev p = .pt (.l j) off) (hj : look L j = some (.var (.d z))) (hx : (⟨t, L, F⟩ : St).frz ((⟨t, L, F⟩ : St).ev x) = .d z') (hz : z.set off z' = some z2) (hs : z'.size = rr.sz)
    (h : So P n ops r Q ⟨t, (j, .var (.d z2)) :: L, F⟩) : So P n ops (⟨none, .store tt p x, ty, pos, af, none⟩ :: r) Q ⟨t, L, F⟩ := by
  refine So.of_aop hY rfl ⟨rfl, rfl, .inl ?_⟩
  unfold opStore
  have hj' : (⟨t, L, F⟩ : St).obj (.l j) = some (.var (.d z)) := hj
  simp only [hr, hp, hj', hx]
  exact ⟨hs, z2, hz, h⟩
/-- A store into an array. -/
theorem s_sm (hY : TyOk P y) {tt e : TypeId} {p x : Operand} {rr : Yr} {j m sz : Nat} {xs : List D} {z' : D} (hr : y.Y tt = some rr) (hp : (⟨t, L, F⟩ : St).ev p = .pm (.l j) m sz) (hj : look L j = some (.mr e sz xs)) (hx : (⟨t, L, F⟩ : St).frz ((⟨t, L, F⟩ : St).ev x) = .d z') (hrs : rr.sz = sz) (hs : z'.size = sz) (hm : m < xs.length)
    (h : So P n ops r Q ⟨t, (j, .mr e sz (xs.set m z')) :: L, F⟩) : So P n ops (⟨none, .store tt p x, ty, pos, af, none⟩ :: r) Q ⟨t, L, F⟩ := by
  refine So.of_aop hY rfl ⟨rfl, rfl, .inl ?_⟩
  unfold opStore
  have hj' : (⟨t, L, F⟩ : St).obj (.l j) = some (.mr e sz xs) := hj
  simp only [hr, hp, hj', hx]
  exact ⟨trivial, hrs, hs, hm, h⟩
theorem s_sl (hY : TyOk P y) {tt e : TypeId} {len : Nat} {ps : List (Nat × Operand)} {rr : Yr} {xs : List D} (hk : y.ky tt = some (.sl e)) (hr : y.Y e = some rr) (hz : (y.Z e).isSome = true) (hxs : asDs (ps.map fun p => (⟨t, L, F⟩ : St).frz ((⟨t, L, F⟩ : St).ev p.2)) = some xs) (hcl : (⟨t, L, F⟩ : St).cleanB i = true) (hsq : seqB 0 ps = true) (hl : len = ps.length) (h0 : 0 < rr.sz) (hb : len * rr.sz ≤ 16777216) (ha : allSz rr.sz xs) (hi : dstB n (some i) = true)
    (h : So P n ops r Q ⟨(i, .rw (.l i) xs.length) :: t, (i, .row e rr.sz xs) :: L, F⟩) : So P n ops (⟨some i, .buildSlice tt len ps.toArray, ty, pos, af, none⟩ :: r) Q ⟨t, L, F⟩ := by
  refine So.of_aop hY rfl ⟨hi, ?_⟩
  unfold opSlice
  simp only [hk, hr, hxs]
  exact ⟨hcl, hsq, hl, h0, hb, ha, hz, h⟩
theorem s_mk (hY : TyOk P y) {tt e : TypeId} {l c : Operand} {rr : Yr} {z : D} {m : Nat} (hk : y.ky tt = some (.sl e)) (hr : y.Y e = some rr) (hz : y.Z e = some z) (hl : (⟨t, L, F⟩ : St).ev l = .d (.i .i64 m)) (hc : (⟨t, L, F⟩ : St).ev c = .d (.i .i64 m)) (hb : m * rr.by_ ≤ 140737488355328) (h1 : 0 < rr.by_) (h0 : 0 < rr.sz) (hcl : (⟨t, L, F⟩ : St).cleanB i = true) (hi : dstB n (some i) = true)
    (h : So P n ops r Q ⟨(i, .rf (.l i) m) :: t, (i, .mr e rr.sz (List.replicate m z)) :: L, F⟩) : So P n ops (⟨some i, .makeSlice tt l c, ty, pos, af, none⟩ :: r) Q ⟨t, L, F⟩ := by
  refine So.of_aop hY rfl ⟨hi, ?_⟩
  unfold opMake
  simp only [hk, hl, hc, hr, hz]
  have hm : m ≤ m * rr.by_ := Nat.le_mul_of_pos_right _ h1
  have hmul : (rr.by_ : Int) * (m : Int) = ((m * rr.by_ : Nat) : Int) := by rw [Int.natCast_mul, Int.mul_comm]
  exact ⟨trivial, by omega, by omega, by rw [hmul]; omega, h0, hcl, h⟩
/-- append to a row of the call's own. -/
theorem s_ap (hY : TyOk P y) {tt e : TypeId} {s x : Operand} {rr : Yr} {j m : Nat} {xs ys : List D} (hk : y.ky tt = some (.sl e)) (hr : y.Y e = some rr) (hz : (y.Z e).isSome = true) (hs : (⟨t, L, F⟩ : St).ev s = .rw (.l j) m) (hj : look L j = some (.row e rr.sz xs)) (hx : (⟨t, L, F⟩ : St).frz ((⟨t, L, F⟩ : St).ev x) = .d (.sl ys)) (h0 : 0 < rr.sz) (ha : allSz rr.sz ys) (hm : m = xs.length) (hi : dstB n (some i) = true) (hb : (m + ys.length) * rr.by_ ≤ 140737488355328) (h1 : 0 < rr.by_)
    (h : So P n ops r Q ⟨(i, .rw (.l j) (m + ys.length)) :: t, (j, .row e rr.sz (xs ++ ys)) :: L, F⟩) : So P n ops (⟨some i, .call ⟨.builtin .append, #[s, x], #[tt, tt]⟩, ty, pos, af, none⟩ :: r) Q ⟨t, L, F⟩ := by
  refine So.of_aop hY rfl ⟨hi, rfl, ?_⟩
  unfold opApp
  have hj' : (⟨t, L, F⟩ : St).obj (.l j) = some (.row e rr.sz xs) := hj
  simp only [hk, hx, hr, hs, hj']
  have hmm : m + ys.length ≤ (m + ys.length) * rr.by_ := Nat.le_mul_of_pos_right _ h1
  exact ⟨h0, ha, hz, trivial, trivial, hm, by omega, hb, h⟩
/-- append to a nil slice. -/
theorem s_an (hY : TyOk P y) {tt e : TypeId} {s x : Operand} {rr : Yr} {ys : List D} (hk : y.ky tt = some (.sl e)) (hr : y.Y e = some rr) (hz : (y.Z e).isSome = true) (hs : (⟨t, L, F⟩ : St).ev s = .nl) (hx : (⟨t, L, F⟩ : St).frz ((⟨t, L, F⟩ : St).ev x) = .d (.sl ys)) (h0 : 0 < rr.sz) (ha : allSz rr.sz ys) (hcl : (⟨t, L, F⟩ : St).cleanB i = true) (hi : dstB n (some i) = true) (hb : ys.length * rr.by_ ≤ 140737488355328) (h1 : 0 < rr.by_)
    (h : So P n ops r Q ⟨(i, .rw (.l i) ys.length) :: t, (i, .row e rr.sz ys) :: (i, .row e rr.sz []) :: L, F⟩) : So P n ops (⟨some i, .call ⟨.builtin .append, #[s, x], #[tt, tt]⟩, ty, pos, af, none⟩ :: r) Q ⟨t, L, F⟩ := by
  refine So.of_aop hY rfl ⟨hi, rfl, ?_⟩
  unfold opApp
  simp only [hk, hx, hr, hs]
  have hmm : ys.length ≤ ys.length * rr.by_ := Nat.le_mul_of_pos_right _ h1
  exact ⟨h0, ha, hz, hcl, by omega, hb, h⟩

/-- Just the answer v0, no object. -/
def isR (v0 : T) (v : T) (Fo : List Ob) : Prop := Fo = [] ∧ v = v0

theorem s_call (hY : TyOk P y) {g : FuncId} {args : List Operand} {tys : Array TypeId} {ags : List T} {v : T} (hc : AC P g ags [] (isR v)) (ha : args.map (fun x => (⟨t, L, F⟩ : St).frz ((⟨t, L, F⟩ : St).ev x)) = ags) (hn : noLs ags = true) (hv : v.keys = []) (hi : dstB n (some i) = true) (h : So P n ops r Q ⟨(i, v) :: t, L, F⟩) :
    So P n ops (⟨some i, .call ⟨.value (.func g), args.toArray, tys⟩, ty, pos, af, none⟩ :: r) Q ⟨t, L, F⟩ := by
  refine So.of_aop hY rfl ⟨hi, ?_⟩
  simp only [St.ev, List.map_nil, List.append_nil]
  subst ha
  exact .inr ⟨hn, .inl ⟨_, hc, fun v' Fo hq => ⟨hq.1, by rw [hq.2]; exact hv, by rw [hq.2]; exact h⟩⟩⟩
/-- A call whose answer is told by R alone. -/
theorem s_callR (hY : TyOk P y) {g : FuncId} {args : List Operand} {tys : Array TypeId} {ags : List T} {R : T → Prop} (hc : AC P g ags [] fun v Fo => Fo = [] ∧ R v) (ha : args.map (fun x => (⟨t, L, F⟩ : St).frz ((⟨t, L, F⟩ : St).ev x)) = ags) (hn : noLs ags = true) (hi : dstB n (some i) = true) (h : ∀ v, R v → v.keys = [] ∧ So P n ops r Q ⟨(i, v) :: t, L, F⟩) :
    So P n ops (⟨some i, .call ⟨.value (.func g), args.toArray, tys⟩, ty, pos, af, none⟩ :: r) Q ⟨t, L, F⟩ := by
  refine So.of_aop hY rfl ⟨hi, ?_⟩
  simp only [St.ev, List.map_nil, List.append_nil]
  subst ha
  exact .inr ⟨hn, .inl ⟨_, hc, fun v' Fo hq => ⟨hq.1, (h v' hq.2).1, (h v' hq.2).2⟩⟩⟩

/-! guards -/
variable {op : Op} {dst : Option Tmp} {j q : Nat} {want : Bool}
theorem So.of_one (hY : TyOk P y) {o : Oper} {σ : St} (h : oneOp P y n ops o σ (So P n ops r Q)) : So P n ops (o :: r) Q σ := fun E hE a w I β R => by
  subst hE
  have h1 := oneOp_ok hY R (Q := Qr E Q) h
  unfold wpList
  split
  · rename_i hw
    rw [if_pos hw] at h1
    exact .inl (Oper.wp_mono (fun a' w' ⟨σ', I', β', R', h', _⟩ => h' E rfl a' w' I' β' R') h1)
  · rename_i hw
    rw [if_neg hw] at h1
    obtain ⟨σ', I', β', R', h', _⟩ := h1
    exact h' E rfl _ w I' β' R'
/-- The guard holds. -/
theorem s_gy {σ : St} (hj : (ops[j]?).bind (·.dst) = some q) (hb : σ.get q = .d (.b want)) (h : So P n ops (⟨dst, op, ty, pos, af, none⟩ :: r) Q σ) : So P n ops (⟨dst, op, ty, pos, af, some (j, want)⟩ :: r) Q σ := fun E hE a w I β R => by
  have hy := (yielded_of R hj).1 want hb
  have h1 := h E hE a w I β R
  unfold wpList at h1 ⊢
  rw [if_pos (by simp [Region.wanted, hy])]
  rw [if_pos (by simp [Region.wanted])] at h1
  exact h1
/-- The guard does not hold. -/
theorem s_gn (hY : TyOk P y) {b : Bool} (hj : (ops[j]?).bind (·.dst) = some q) (hb : (⟨t, L, F⟩ : St).get q = .d (.b b)) (hn : (b == want) = false) (hi : dstB n dst = true) (h : So P n ops r Q ((⟨t, L, F⟩ : St).put dst .un)) : So P n ops (⟨dst, op, ty, pos, af, some (j, want)⟩ :: r) Q ⟨t, L, F⟩ := by
  refine So.of_one hY ?_
  unfold oneOp
  simp only [hj, hb]
  refine ⟨hi, ?_⟩
  rw [if_neg (by simpa using hn)]
  exact h
theorem s_gu (hY : TyOk P y) (hj : (ops[j]?).bind (·.dst) = some q) (hb : (⟨t, L, F⟩ : St).get q = .un) (hi : dstB n dst = true) (h : So P n ops r Q ((⟨t, L, F⟩ : St).put dst .un)) : So P n ops (⟨dst, op, ty, pos, af, some (j, want)⟩ :: r) Q ⟨t, L, F⟩ := by
  refine So.of_one hY ?_
  unfold oneOp
  simp only [hj, hb]
  exact ⟨hi, h⟩
end ops

/-! ### Weakening -/
def subT (σ : St) : List (Nat × T) → Prop
  | [] => True
  | (i, x) :: r => σ.get i = x ∧ subT σ r
def subL (σ : St) : List (Nat × Ob) → Prop
  | [] => True
  | (i, o) :: r => look σ.L i = some o ∧ subL σ r

theorem subT_ok {σ : St} : ∀ {l : List (Nat × T)}, subT σ l → ∀ i x, look l i = some x → σ.get i = x
  | [], _, _, _, h => by simp [look] at h
  | (k, z) :: r, hs, i, x, h => by
    simp only [look] at h
    split at h
    · rename_i hk; cases h; subst hk; exact hs.1
    · exact subT_ok hs.2 i x h
theorem subL_ok {σ : St} : ∀ {l : List (Nat × Ob)}, subL σ l → ∀ i x, look l i = some x → look σ.L i = some x
  | [], _, _, _, h => by simp [look] at h
  | (k, z) :: r, hs, i, x, h => by
    simp only [look] at h
    split at h
    · rename_i hk; cases h; subst hk; exact hs.1
    · exact subL_ok hs.2 i x h

theorem Wk.of {σ : St} {t : List (Nat × T)} {L : List (Nat × Ob)} {F : List Ob} (h1 : subT σ t) (h2 : subL σ L) (h3 : σ.F = F) : Wk n σ ⟨t, L, F⟩ := fun E _ a w I β R => by
  subst h3
  have ho : ∀ k o, (⟨t, L, σ.F⟩ : St).obj k = some o → σ.obj k = some o := fun k o hk => by
    cases k with
    | l i => exact subL_ok h2 i o hk
    | f i => exact hk
  refine ⟨β, fun i x hx => ?_, R.tz, R.df, ⟨fun k o hk => R.ob.rel k o (ho k o hk), fun k k' o o' b h h' => R.ob.sep k k' o o' b (ho k o h) (ho k' o' h'), R.ob.new⟩, R.ext, R.fr, R.kp, fun i o b hq => R.lo i o b (subL_ok h2 i o hq), R.fo, R.nf⟩
  have := R.get i
  rw [subT_ok h1 i x hx] at this
  exact this
theorem Wk.refl (σ : St) : Wk n σ σ := fun E _ a w I β R => ⟨β, R⟩

theorem Wk.dup {t : List (Nat × T)} {L : List (Nat × Ob)} {F : List Ob} {q : Nat} {x : T} (h : (⟨t, L, F⟩ : St).get q = x) : Wk n ⟨t, L, F⟩ ⟨(q, x) :: t, L, F⟩ := fun E _ a w I β R => by
  refine ⟨β, fun i z hz => ?_, R.tz, R.df, R.ob, R.ext, R.fr, R.kp, R.lo, R.fo, R.nf⟩
  simp only [look] at hz
  split at hz
  · rename_i hi
    cases hz
    have := R.get q
    rw [h] at this
    rw [hi]
    exact this
  · exact R.tm i z hz

section split
variable {Q : Exit → St → Prop} {k : List Kf} {ops : Array Oper} {r : List Oper} {t : List (Nat × T)} {L : List (Nat × Ob)} {F : List Ob} {q j : Nat} {b : Bool}
theorem s_cs {x z : Code} (hc : (⟨t, L, F⟩ : St).get q = .d (.b b)) (h1 : b = true → Sc P n x (Sk P n Q k) ⟨(q, .d (.b true)) :: t, L, F⟩) (h2 : b = false → Sc P n z (Sk P n Q k) ⟨(q, .d (.b false)) :: t, L, F⟩) : Sc P n (.cond (.tmp q) x z) (Sk P n Q k) ⟨t, L, F⟩ :=
  s_cond (b := b) hc (fun h => (h1 h).wk (Wk.dup (by rw [hc, h]))) (fun h => (h2 h).wk (Wk.dup (by rw [hc, h])))
theorem s_gs {o : Oper} {want : Bool} (hg : o.guard = some (j, want)) (hj : (ops[j]?).bind (·.dst) = some q) (hb : (⟨t, L, F⟩ : St).get q = .d (.b b)) (h1 : b = true → So P n ops (o :: r) Q ⟨(q, .d (.b true)) :: t, L, F⟩) (h2 : b = false → So P n ops (o :: r) Q ⟨(q, .d (.b false)) :: t, L, F⟩) : So P n ops (o :: r) Q ⟨t, L, F⟩ := by
  cases b with
  | true => exact (h1 rfl).wk (Wk.dup hb)
  | false => exact (h2 rfl).wk (Wk.dup hb)
end split

theorem AC_fn (hY : TyOk P y) {f : FuncId} {fn : Func} {c : Code} {n : Nat} {rs : List ResultVar} {args : List T} {F : List Ob} {R : T → List Ob → Prop} (hf : P.funcs[f]? = some fn) (hb : fn.body = some c) (hn : fn.ntmps = n) (hrs : fn.results = rs.toArray) (hnm : (fn.name == "runtime.NumGoroutine") = false) (hl : (args.length ≤ n) = True)
    (h : Sc P n c (Sk P n (retQ y rs R) []) { t := enumT 0 args, L := [], F := F }) : AC P f args F R := by
  refine AC_of' hY hf hb hn hrs hnm (by rw [hl]; trivial) h
end Go.Proofs.Ytmclamindmnigaa.Ax

namespace Go.Proofs.Ytmclamindmnigaa.Ax
theorem eqI (a b : Int) : (a == b) = decide (a = b) := by rw [Bool.eq_iff_iff]; simp
theorem neI (a b : Int) : (a != b) = !decide (a = b) := by rw [bne, eqI]
theorem eqS (a b : ByteArray) : (a.toList == b.toList) = decide (a = b) := by
  rw [Bool.eq_iff_iff]
  simp only [beq_iff_eq, decide_eq_true_eq]
  refine ⟨fun h => ?_, fun h => by rw [h]⟩
  rw [ByteArray.toList_eq, ByteArray.toList_eq] at h
  cases a; cases b
  simp only [ByteArray.mk.injEq]
  exact Array.toList_inj.1 h
theorem tifB (t x z : Bool) : tif t (.d (.b x)) (.d (.b z)) = .d (.b (if t = true then x else z)) := by cases t <;> rfl
theorem tifT (x z : T) : tif true x z = x := rfl
theorem tifF (x z : T) : tif false x z = z := rfl
attribute [go_sem] St.ev St.get look cT pval pBin dint dstr pUn pFld pLen pLoad pIdx pIx pExtract pConv pBuild place setAll kPt kPts St.frz St.obj St.cont Option.map Option.getD Option.bind Ky.agg Ky.okk D.sub atL D.set setL D.size sizes D.isAg tifT tifF tifB enumT St.put eqI neI eqS Bool.not_not
end Go.Proofs.Ytmclamindmnigaa.Ax

namespace Go.Proofs.Ytmclamindmnigaa.Ax
open Go.RowKit
variable {P : Program} {y : Ty} {n : Nat}

/-! ### Rules that rfl alone settles -/
def evq (t : List (Nat × T)) : Operand → Option T
  | .tmp q => look t q
  | .const v => match v with
    | .bool b => some (.d (.b b))
    | .int k n => some (.d (.i k n))
    | .string s => some (.d (.s s))
    | .slice none 0 0 => some .nl
    | _ => none
  | .func f => some (.fn f [])
  | .global _ => none

theorem evq_ok {t : List (Nat × T)} {L : List (Nat × Ob)} {F : List Ob} {x : Operand} {v : T} (h : evq t x = some v) : (⟨t, L, F⟩ : St).ev x = v := by
  cases x with
  | tmp q => simp only [evq] at h; simp only [St.ev, St.get, h, Option.getD_some]
  | const c =>
    simp only [evq] at h
    split at h <;> first | (cases h; done) | (cases h; rfl)
  | func f => cases h; rfl
  | global g => cases h

def obq (L : List (Nat × Ob)) (F : List Ob) : Key → Option Ob
  | .l i => look L i
  | .f i => F[i]?
theorem obq_eq (t : List (Nat × T)) (L : List (Nat × Ob)) (F : List Ob) (k : Key) : (⟨t, L, F⟩ : St).obj k = obq L F k := by cases k <;> rfl

/-- As data, a growing row or nil too. -/
inductive Fz (t : List (Nat × T)) (L : List (Nat × Ob)) (F : List Ob) : Operand → T → Prop
  | d {x : Operand} {z : D} : evq t x = some (.d z) → Fz t L F x (.d z)
  | n {x : Operand} : evq t x = some .nl → Fz t L F x (.d (.sl []))
  | w {x : Operand} {k : Key} {m : Nat} {e : TypeId} {sz : Nat} {xs : List D} : evq t x = some (.rw k m) → obq L F k = some (.row e sz xs) → m = xs.length → Fz t L F x (.d (.sl xs))
  | f {x : Operand} {f : FuncId} {ks : List Key} : evq t x = some (.fn f ks) → Fz t L F x (.fn f ks)
  | p {x : Operand} {k : Key} {o : Nat} : evq t x = some (.pt k o) → Fz t L F x (.pt k o)
  | t {x : Operand} {z : D} {k : Key} {m o : Nat} : evq t x = some (.dt z k m o) → Fz t L F x (.d z)
inductive Fzs (t : List (Nat × T)) (L : List (Nat × Ob)) (F : List Ob) : List Operand → List T → Prop
  | nil : Fzs t L F [] []
  | cons {x : Operand} {v : T} {xs : List Operand} {vs : List T} : Fz t L F x v → Fzs t L F xs vs → Fzs t L F (x :: xs) (v :: vs)

section
variable {Q : Exit → St → Prop} {k : List Kf} {ops : Array Oper} {r : List Oper} {t : List (Nat × T)} {L : List (Nat × Ob)} {F : List Ob} {i : Nat} {ty : TypeId} {pos : String} {af : Array Edge}

theorem lk {q : Nat} {x : T} (h : look t q = some x) : (⟨t, L, F⟩ : St).get q = x := by simp only [St.get, h, Option.getD_some]
theorem Fz.ok {x : Operand} {v : T} (h : Fz t L F x v) : (⟨t, L, F⟩ : St).frz ((⟨t, L, F⟩ : St).ev x) = v := by
  cases h with
  | d h => rw [evq_ok h]; rfl
  | n h => rw [evq_ok h]; rfl
  | w h1 h2 h3 => rw [evq_ok h1]; simp only [St.frz, obq_eq, h2]; rw [if_pos h3]
  | f h => rw [evq_ok h]; rfl
  | p h => rw [evq_ok h]; rfl
  | t h => rw [evq_ok h]; rfl
theorem Fzs.ok {xs : List Operand} {vs : List T} (h : Fzs t L F xs vs) : xs.map (fun x => (⟨t, L, F⟩ : St).frz ((⟨t, L, F⟩ : St).ev x)) = vs := by
  induction h with
  | nil => rfl
  | cons h _ ih => rw [List.map_cons, h.ok, ih]

def ldq (y : Ty) (L : List (Nat × Ob)) (F : List Ob) (ty : TypeId) : T → Option T
  | .pd x off => match y.Y ty with
    | some r => match x.sub off r.sz r.ky.agg with
      | some z => some (.d z)
      | none => none
    | none => none
  | .pt k off => match obq L F k with
    | some (.var (.d x)) => match y.Y ty with
      | some r => match x.sub off r.sz r.ky.agg with
        | some z => some (.d z)
        | none => none
      | none => none
    | some (.var .nl) => match off, y.Y ty with
      | 0, some r => match r.ky.agg with
        | false => some .nl
        | true => none
      | _, _ => none
    | some (.var (.rw k' m)) => match off, y.Y ty with
      | 0, some r => match r.ky.agg with
        | false => some (.rw k' m)
        | true => none
      | _, _ => none
    | _ => none
  | _ => none

theorem ldq_ok {tt : TypeId} {X v : T} (h : ldq y L F tt X = some v) : pLoad y ⟨t, L, F⟩ tt X = some v := by
  unfold ldq at h
  unfold pLoad
  split at h
  · split at h
    · split at h
      · rename_i h1 _ z h2
        simp only [h1, h2, Option.map_some]
        exact h
      · cases h
    · cases h
  · simp only [obq_eq]
    split at h
    · rename_i ho
      split at h
      · split at h
        · rename_i h1 _ z h2
          simp only [ho, h1, h2, Option.map_some]
          exact h
        · cases h
      · cases h
    · rename_i ho
      split at h
      · rename_i r hr
        split at h
        · rename_i hag
          simp only [ho, hr, hag, and_self, if_true]
          exact h
        · cases h
      · cases h
    · rename_i k' m ho
      split at h
      · rename_i r hr
        split at h
        · rename_i hag
          simp only [ho, hr, hag, and_self, if_true]
          exact h
        · cases h
      · cases h
    · cases h
  · cases h

/-- The value of an operation that changes nothing, laid open by whnf. -/
def pv (y : Ty) (t : List (Nat × T)) (L : List (Nat × Ob)) (F : List Ob) : Op → Option T
  | .move x => evq t x
  | .assign x => evq t x
  | .pick c a b => match evq t c with
    | some (.d (.b true)) => evq t a
    | some (.d (.b false)) => evq t b
    | _ => none
  | .binOp op ty x z _ => match evq t x, evq t z with
    | some X, some Z => pBin y op ty X Z
    | _, _ => none
  | .unOp op _ x => match evq t x with
    | some X => pUn op X
    | none => none
  | .fieldAddr ty x f => match evq t x with
    | some X => pFld y ty f X
    | none => none
  | .load ty x => match evq t x with
    | some X => ldq y L F ty X
    | none => none
  | .extract x i => match evq t x with
    | some X => pExtract i X
    | none => none
  | .nilCheck x => match evq t x with
    | some (.pt k off) => some (.pt k off)
    | some (.pd x off) => some (.pd x off)
    | _ => none
  | .call c => match c.callee, c.args.toList, c.argTypes.toList with
    | .builtin .len, [x], [tt] => match evq t x with
      | some (.d (.s z)) => match y.ky tt with
        | some .st => some (.d (.i .i64 z.size))
        | _ => none
      | some (.d (.sl z)) => match y.ky tt with
        | some (.sl _) => some (.d (.i .i64 z.length))
        | _ => none
      | some .nl => match y.ky tt with
        | some (.sl _) => some (.d (.i .i64 0))
        | _ => none
      | _ => none
    | _, _, _ => none
  | _ => none

theorem pv_ok {op : Op} {v : T} (h : pv y t L F op = some v) : pval y ⟨t, L, F⟩ op = some v := by
  unfold pv at h
  unfold pval
  split at h
  · simp only [evq_ok (L := L) (F := F) h]
  · simp only [evq_ok (L := L) (F := F) h]
  · split at h
    · rename_i hc; simp only [evq_ok (L := L) (F := F) hc, evq_ok (L := L) (F := F) h, tif, if_true]
    · rename_i hc; simp only [evq_ok (L := L) (F := F) hc, evq_ok (L := L) (F := F) h, tif, Bool.false_eq_true, if_false]
    · cases h
  · split at h
    · rename_i h1 h2; simp only [evq_ok (L := L) (F := F) h1, evq_ok (L := L) (F := F) h2]; exact h
    · cases h
  · split at h
    · rename_i h1; simp only [evq_ok (L := L) (F := F) h1]; exact h
    · cases h
  · split at h
    · rename_i h1; simp only [evq_ok (L := L) (F := F) h1]; exact h
    · cases h
  · split at h
    · rename_i h1; simp only [evq_ok (L := L) (F := F) h1]; exact ldq_ok h
    · cases h
  · split at h
    · rename_i h1; simp only [evq_ok (L := L) (F := F) h1]; exact h
    · cases h
  · split at h
    · rename_i h1; simp only [evq_ok (L := L) (F := F) h1]; exact h
    · rename_i h1; simp only [evq_ok (L := L) (F := F) h1]; exact h
    · cases h
  · split at h
    · rename_i h1 h2 h3
      simp only [h1, h2, h3]
      split at h
      · rename_i h4
        simp only [evq_ok (L := L) (F := F) h4, St.frz, pLen]
        split at h
        · rename_i h5; (try simp only [h5]); exact h
        · cases h
      · rename_i h4
        simp only [evq_ok (L := L) (F := F) h4, St.frz, pLen]
        split at h
        · rename_i h5; (try simp only [h5]); exact h
        · cases h
      · rename_i h4
        simp only [evq_ok (L := L) (F := F) h4, St.frz, pLen]
        split at h
        · rename_i h5; (try simp only [h5]); exact h
        · cases h
      · cases h
    · cases h
  · cases h


/-! values (v_) -/
theorem v_pv {op : Op} {v : T} (h : pv y t L F op = some v) : pval y ⟨t, L, F⟩ op = some v := pv_ok h
/-- A sum within bounds. -/
theorem v_wr {op : Op} {z : Int} (h : pv y t L F op = some (.d (.i .i64 (IntKind.i64.wrap z)))) (hz : -9223372036854775808 ≤ z ∧ z ≤ 9223372036854775807) : pval y ⟨t, L, F⟩ op = some (.d (.i .i64 z)) := by
  rw [pv_ok h, IntWalk.i64_in z hz]
/-- A load of data, told by a law. -/
theorem v_ldp {tt : TypeId} {x : Operand} {z z' : D} {off : Nat} {rr : Yr} (hx : evq t x = some (.pd z off)) (hr : y.Y tt = some rr) (hs : z.sub off rr.sz rr.ky.agg = some z') : pval y ⟨t, L, F⟩ (.load tt x) = some (.d z') := by
  simp only [pval, evq_ok (L := L) (F := F) hx, pLoad, hr, hs, Option.map_some]
theorem v_ldb {tt : TypeId} {x : Operand} {kk : Key} {z z' : D} {off : Nat} {rr : Yr} (hx : evq t x = some (.pt kk off)) (hk : obq L F kk = some (.var (.d z))) (hr : y.Y tt = some rr) (hs : z.sub off rr.sz rr.ky.agg = some z') : pval y ⟨t, L, F⟩ (.load tt x) = some (.d z') := by
  simp only [pval, evq_ok (L := L) (F := F) hx, pLoad, obq_eq, hk, hr, hs, Option.map_some]
/-- The length of a growing row. -/
theorem v_ln {x : Operand} {tt e : TypeId} {xs : List D} (hk : y.ky tt = some (.sl e)) (hx : Fz t L F x (.d (.sl xs))) : pval y ⟨t, L, F⟩ (.call ⟨.builtin .len, #[x], #[tt]⟩) = some (.d (.i .i64 xs.length)) := by
  show pLen y tt ((⟨t, L, F⟩ : St).frz ((⟨t, L, F⟩ : St).ev x)) = _
  rw [hx.ok]
  simp only [pLen, hk]
/-- The place of an element. -/
theorem v_ia {x z : Operand} {tt e : TypeId} {xs : List D} {kk : IntKind} {m : Int} {v : D} {rr : Yr} (q : Nat) (hk : y.ky tt = some (.sl e)) (hr : y.Y e = some rr) (hx : Fz t L F x (.d (.sl xs))) (hz : evq t z = some (.d (.i kk m))) (hm : m = (q : Int)) (hv : xs[q]? = some v) (hs : v.size = rr.sz) :
    pval y ⟨t, L, F⟩ (.indexAddr tt x z) = some (.pd v 0) := by
  simp only [pval, hx.ok, evq_ok (L := L) (F := F) hz, pIdx, hk, hm, Int.toNat_natCast, hv, hr, hs, if_true]
  rw [if_pos (by omega)]
/-- The place in an array that was made. -/
theorem v_im {x z : Operand} {tt e : TypeId} {j len : Nat} {kk : IntKind} {m : Int} {rr : Yr} (q : Nat) (hk : y.ky tt = some (.sl e)) (hr : y.Y e = some rr) (hx : evq t x = some (.rf (.l j) len)) (hz : evq t z = some (.d (.i kk m))) (hm : m = (q : Int)) (hq : q < len) :
    pval y ⟨t, L, F⟩ (.indexAddr tt x z) = some (.pm (.l j) q rr.sz) := by
  simp only [pval, evq_ok (L := L) (F := F) hx, evq_ok (L := L) (F := F) hz, St.frz, pIdx, hk, hm, Int.toNat_natCast, hr]
  rw [if_pos (by omega)]
/-- A byte of a string. -/
theorem v_ix {x z : Operand} {tt : TypeId} {s : ByteArray} {kk : IntKind} {m : Int} (q : Nat) (hk : y.ky tt = some .st) (hx : evq t x = some (.d (.s s))) (hz : evq t z = some (.d (.i kk m))) (hm : m = (q : Int)) (hq : q < s.size) :
    pval y ⟨t, L, F⟩ (.index tt x z) = some (.d (.i .u8 ((s.data[q]?).getD 0).toNat)) := by
  simp only [pval, evq_ok (L := L) (F := F) hx, evq_ok (L := L) (F := F) hz, pIx, hk, hm, Int.toNat_natCast]
  rw [if_pos (by omega)]
/-- Two strings, one behind the other. -/
theorem v_cat {x z : Operand} {tt t2 : TypeId} {s s' : ByteArray} (hx : evq t x = some (.d (.s s))) (hz : evq t z = some (.d (.s s'))) (hb : s.size + s'.size ≤ 9223372036854775807) : pval y ⟨t, L, F⟩ (.binOp .add tt x z t2) = some (.d (.s (s ++ s'))) := by
  simp only [pval, evq_ok (L := L) (F := F) hx, evq_ok (L := L) (F := F) hz, pBin, dstr]
  rw [if_pos hb]; rfl
inductive Fds (t : List (Nat × T)) (L : List (Nat × Ob)) (F : List Ob) : List (Nat × Operand) → List D → Prop
  | nil : Fds t L F [] []
  | cons {q : Nat} {x : Operand} {v : D} {xs : List (Nat × Operand)} {vs : List D} : Fz t L F x (.d v) → Fds t L F xs vs → Fds t L F ((q, x) :: xs) (v :: vs)
theorem Fds.ok {ps : List (Nat × Operand)} {vs : List D} (h : Fds t L F ps vs) : asDs (ps.map fun p => (⟨t, L, F⟩ : St).frz ((⟨t, L, F⟩ : St).ev p.2)) = some vs := by
  induction h with
  | nil => rfl
  | cons h _ ih => simp only [List.map_cons, h.ok, asDs, ih, Option.map_some]
theorem Fds.bld {ps : List (Nat × Operand)} {vs : List D} (h : Fds t L F ps vs) : (ps.map fun p => (p.1, (⟨t, L, F⟩ : St).frz ((⟨t, L, F⟩ : St).ev p.2))) = List.zipWith (fun p v => (p.1, T.d v)) ps vs := by
  induction h with
  | nil => rfl
  | cons h _ ih => simp only [List.map_cons, h.ok, ih, List.zipWith_cons_cons]
/-- A struct of its parts. -/
theorem v_bld {tt : TypeId} {ps : List (Nat × Operand)} {xs : List D} {v : T} (hxs : Fds t L F ps xs) (hv : pBuild y tt (List.zipWith (fun p v => (p.1, T.d v)) ps xs) = some v) : pval y ⟨t, L, F⟩ (.build tt ps.toArray) = some v := by
  simp only [pval]
  rw [hxs.bld]
  exact hv
theorem v_fn {f : FuncId} {caps : List Operand} {ks : List Key} (h : kPts (caps.map (⟨t, L, F⟩ : St).ev) = some ks) : pval y ⟨t, L, F⟩ (.makeFunc (.func f) #[] caps.toArray) = some (.fn f ks) := by
  simp only [pval, h]; rfl

/-! acts (a_) -/
variable {K : St → Prop} {g : Option (Nat × Bool)}
theorem a_box {tt : TypeId} {x : Operand} {c : D} (hs : evq t x = some (.d c)) (hcl : (⟨t, L, F⟩ : St).cleanB i = true) (hi : dstB n (some i) = true)
    (h : K ⟨(i, .pt (.l i) 0) :: t, (i, .var (.d c)) :: L, F⟩) : aop P y n ⟨some i, .box tt x, ty, pos, af, g⟩ ⟨t, L, F⟩ K :=
  ⟨hi, hcl, by rw [evq_ok hs]; rfl, .d c, by rw [evq_ok hs]; rfl, h⟩
theorem a_alz {tt : TypeId} {ky : Ky} {z : D} (hk : y.ky tt = some ky) (hz : y.Z tt = some z) (hns : (match ky with
    | .sl _ => false
    | _ => true) = true) (hcl : (⟨t, L, F⟩ : St).cleanB i = true) (hi : dstB n (some i) = true)
    (h : K ⟨(i, .pt (.l i) 0) :: t, (i, .var (.d z)) :: L, F⟩) : aop P y n ⟨some i, .alloc tt, ty, pos, af, g⟩ ⟨t, L, F⟩ K := by
  refine ⟨hi, ?_⟩
  simp only [hk, hz]
  split
  · rename_i e he; cases he; cases hns
  · exact ⟨hcl, rfl, _, rfl, h⟩
theorem a_als {tt e : TypeId} (hk : y.ky tt = some (.sl e)) (hcl : (⟨t, L, F⟩ : St).cleanB i = true) (hi : dstB n (some i) = true)
    (h : K ⟨(i, .pt (.l i) 0) :: t, (i, .var .nl) :: L, F⟩) : aop P y n ⟨some i, .alloc tt, ty, pos, af, g⟩ ⟨t, L, F⟩ K := by
  refine ⟨hi, ?_⟩
  simp only [hk]
  exact ⟨hcl, rfl, _, rfl, h⟩
theorem a_cv {s d : TypeId} {x : Operand} {v : T} {X : T} (hs : (y.Y s).isSome = true) (hx : evq t x = some X) (hv : pConv y d X = some v) (hi : dstB n (some i) = true) (h : K ⟨(i, v) :: t, L, F⟩) : aop P y n ⟨some i, .convert s d x, ty, pos, af, g⟩ ⟨t, L, F⟩ K :=
  ⟨hi, hs, v, by rw [evq_ok hx]; exact hv, h⟩
/-- A store into a variable that holds data. -/
theorem a_st {tt : TypeId} {p x : Operand} {rr : Yr} {j off : Nat} {z z' z2 : D} (hr : y.Y tt = some rr) (hp : evq t p = some (.pt (.l j) off)) (hj : look L j = some (.var (.d z))) (hx : Fz t L F x (.d z')) (hz : z.set off z' = some z2) (hs : z'.size = rr.sz)
    (h : K ⟨t, (j, .var (.d z2)) :: L, F⟩) : aop P y n ⟨none, .store tt p x, ty, pos, af, g⟩ ⟨t, L, F⟩ K := by
  refine ⟨rfl, rfl, .inl ?_⟩
  unfold opStore
  have hj' : (⟨t, L, F⟩ : St).obj (.l j) = some (.var (.d z)) := hj
  simp only [hr, evq_ok (L := L) (F := F) hp, hj', hx.ok]
  exact ⟨hs, z2, hz, h⟩
/-- The same, of a foreign variable. -/
theorem a_sf {tt : TypeId} {p x : Operand} {rr : Yr} {j off : Nat} {z z' z2 : D} (hr : y.Y tt = some rr) (hp : evq t p = some (.pt (.f j) off)) (hj : F[j]? = some (.var (.d z))) (hx : Fz t L F x (.d z')) (hz : z.set off z' = some z2) (hs : z'.size = rr.sz)
    (h : K ⟨t, L, F.set j (.var (.d z2))⟩) : aop P y n ⟨none, .store tt p x, ty, pos, af, g⟩ ⟨t, L, F⟩ K := by
  refine ⟨rfl, rfl, .inl ?_⟩
  unfold opStore
  have hj' : (⟨t, L, F⟩ : St).obj (.f j) = some (.var (.d z)) := hj
  simp only [hr, evq_ok (L := L) (F := F) hp, hj', hx.ok]
  exact ⟨hs, z2, hz, h⟩
/-- A foreign variable that holds a foreign row: the row is stored again, grown. -/
theorem a_sw {tt : TypeId} {p x : Operand} {rr : Yr} {j jj m m' : Nat} {e : TypeId} {sz : Nat} {xs : List D} (hr : y.Y tt = some rr) (hp : evq t p = some (.pt (.f j) 0)) (hj : F[j]? = some (.var (.rw (.f jj) m'))) (hx : evq t x = some (.rw (.f jj) m)) (hk : F[jj]? = some (.row e sz xs)) (hm : m = xs.length) (h1 : rr.sz = 1)
    (h : K ⟨t, L, F.set j (.var (.rw (.f jj) m))⟩) : aop P y n ⟨none, .store tt p x, ty, pos, af, g⟩ ⟨t, L, F⟩ K := by
  refine ⟨rfl, rfl, .inl ?_⟩
  unfold opStore
  have hj' : (⟨t, L, F⟩ : St).obj (.f j) = some (.var (.rw (.f jj) m')) := hj
  have hk' : (⟨t, L, F⟩ : St).obj (.f jj) = some (.row e sz xs) := hk
  simp only [hr, evq_ok (L := L) (F := F) hp, hj', evq_ok (L := L) (F := F) hx]
  refine ⟨trivial, h1, .rw (.f jj) m, ?_, trivial, fun _ k hk => ?_, h⟩
  · simp only [St.cont, hk']; rw [if_pos hm]
  · simp only [T.keys, List.mem_singleton] at hk; subst hk; trivial
/-- A store into an array. -/
theorem a_sm {tt e : TypeId} {p x : Operand} {rr : Yr} {j m sz : Nat} {xs : List D} {z' : D} (hr : y.Y tt = some rr) (hp : evq t p = some (.pm (.l j) m sz)) (hj : look L j = some (.mr e sz xs)) (hx : Fz t L F x (.d z')) (hrs : rr.sz = sz) (hs : z'.size = sz) (hm : m < xs.length)
    (h : K ⟨t, (j, .mr e sz (xs.set m z')) :: L, F⟩) : aop P y n ⟨none, .store tt p x, ty, pos, af, g⟩ ⟨t, L, F⟩ K := by
  refine ⟨rfl, rfl, .inl ?_⟩
  unfold opStore
  have hj' : (⟨t, L, F⟩ : St).obj (.l j) = some (.mr e sz xs) := hj
  simp only [hr, evq_ok (L := L) (F := F) hp, hj', hx.ok]
  exact ⟨trivial, hrs, hs, hm, h⟩
theorem a_sl {tt e : TypeId} {len : Nat} {ps : List (Nat × Operand)} {rr : Yr} {xs : List D} (hk : y.ky tt = some (.sl e)) (hr : y.Y e = some rr) (hxs : Fds t L F ps xs) (ha : allSz rr.sz xs) (hz : (y.Z e).isSome = true) (hcl : (⟨t, L, F⟩ : St).cleanB i = true) (hsq : seqB 0 ps = true) (hl : len = ps.length) (h0 : decide (0 < rr.sz ∧ len * rr.sz ≤ 16777216) = true) (hi : dstB n (some i) = true)
    (h : K ⟨(i, .rw (.l i) xs.length) :: t, (i, .row e rr.sz xs) :: L, F⟩) : aop P y n ⟨some i, .buildSlice tt len ps.toArray, ty, pos, af, g⟩ ⟨t, L, F⟩ K := by
  have h0 := of_decide_eq_true h0
  refine ⟨hi, ?_⟩
  unfold opSlice
  simp only [hk, hr, hxs.ok]
  exact ⟨hcl, hsq, hl, h0.1, h0.2, ha, hz, h⟩
theorem a_mk {tt e : TypeId} {l : Operand} {rr : Yr} {z : D} {m : Nat} (hk : y.ky tt = some (.sl e)) (hr : y.Y e = some rr) (hz : y.Z e = some z) (hl : evq t l = some (.d (.i .i64 m))) (h0 : decide (0 < rr.by_ ∧ 0 < rr.sz) = true) (hcl : (⟨t, L, F⟩ : St).cleanB i = true) (hi : dstB n (some i) = true) (hb : m * rr.by_ ≤ 140737488355328)
    (h : K ⟨(i, .rf (.l i) m) :: t, (i, .mr e rr.sz (List.replicate m z)) :: L, F⟩) : aop P y n ⟨some i, .makeSlice tt l l, ty, pos, af, g⟩ ⟨t, L, F⟩ K := by
  have h0 := of_decide_eq_true h0
  refine ⟨hi, ?_⟩
  unfold opMake
  simp only [hk, evq_ok (L := L) (F := F) hl, hr, hz]
  have hm : m ≤ m * rr.by_ := Nat.le_mul_of_pos_right _ h0.1
  have hmul : (rr.by_ : Int) * (m : Int) = ((m * rr.by_ : Nat) : Int) := by rw [Int.natCast_mul, Int.mul_comm]
  exact ⟨trivial, by omega, by omega, by rw [hmul]; omega, h0.2, hcl, h⟩
/-- append to a growing row. -/
theorem a_ap {tt e : TypeId} {s x : Operand} {rr : Yr} {kk : Key} {m : Nat} {xs ys : List D} (hk : y.ky tt = some (.sl e)) (hr : y.Y e = some rr) (hs : evq t s = some (.rw kk m)) (hj : obq L F kk = some (.row e rr.sz xs)) (hx : Fz t L F x (.d (.sl ys))) (hm : m = xs.length) (ha : allSz rr.sz ys) (hz : (y.Z e).isSome = true) (h0 : decide (0 < rr.by_ ∧ 0 < rr.sz) = true) (hi : dstB n (some i) = true) (hb : (xs ++ ys).length * rr.by_ ≤ 140737488355328)
    (h : K (((⟨t, L, F⟩ : St).setO kk (.row e rr.sz (xs ++ ys))).put (some i) (.rw kk (xs ++ ys).length))) : aop P y n ⟨some i, .call ⟨.builtin .append, #[s, x], #[tt, tt]⟩, ty, pos, af, g⟩ ⟨t, L, F⟩ K := by
  have h0 := of_decide_eq_true h0
  refine ⟨hi, rfl, ?_⟩
  unfold opApp
  have hj' : (⟨t, L, F⟩ : St).obj kk = some (.row e rr.sz xs) := by rw [obq_eq]; exact hj
  simp only [hk, hx.ok, hr, evq_ok (L := L) (F := F) hs, hj']
  rw [List.length_append] at hb h
  have hmm : xs.length + ys.length ≤ (xs.length + ys.length) * rr.by_ := Nat.le_mul_of_pos_right _ h0.1
  exact ⟨h0.2, ha, hz, trivial, trivial, hm, by omega, by rw [hm]; exact hb, by rw [hm]; exact h⟩
/-- append to a nil slice. -/
theorem a_an {tt e : TypeId} {s x : Operand} {rr : Yr} {ys : List D} (hk : y.ky tt = some (.sl e)) (hr : y.Y e = some rr) (hs : evq t s = some .nl) (hx : Fz t L F x (.d (.sl ys))) (ha : allSz rr.sz ys) (hz : (y.Z e).isSome = true) (h0 : decide (0 < rr.by_ ∧ 0 < rr.sz) = true) (hcl : (⟨t, L, F⟩ : St).cleanB i = true) (hi : dstB n (some i) = true) (hb : ys.length * rr.by_ ≤ 140737488355328)
    (h : K ⟨(i, .rw (.l i) ys.length) :: t, (i, .row e rr.sz ys) :: (i, .row e rr.sz []) :: L, F⟩) : aop P y n ⟨some i, .call ⟨.builtin .append, #[s, x], #[tt, tt]⟩, ty, pos, af, g⟩ ⟨t, L, F⟩ K := by
  have h0 := of_decide_eq_true h0
  refine ⟨hi, rfl, ?_⟩
  unfold opApp
  simp only [hk, hx.ok, hr, evq_ok (L := L) (F := F) hs]
  have hmm : ys.length ≤ ys.length * rr.by_ := Nat.le_mul_of_pos_right _ h0.1
  exact ⟨h0.2, ha, hz, hcl, by omega, hb, h⟩
/-- A call of a function that sees no object; one answer. -/
theorem a_call {f : FuncId} {args : List Operand} {tys : Array TypeId} {ags : List T} {v : T} (hc : AC P f ags [] (isR v)) (ha : Fzs t L F args ags) (hn : (noLs ags && v.keys.isEmpty && dstB n (some i)) = true) (h : K ⟨(i, v) :: t, L, F⟩) :
    aop P y n ⟨some i, .call ⟨.value (.func f), args.toArray, tys⟩, ty, pos, af, g⟩ ⟨t, L, F⟩ K := by
  simp only [Bool.and_eq_true, List.isEmpty_iff] at hn
  refine ⟨hn.2, ?_⟩
  simp only [show (⟨t, L, F⟩ : St).ev (.func f) = .fn f [] from rfl, List.map_nil, List.append_nil, List.toList_toArray, ha.ok]
  exact .inr ⟨hn.1.1, .inl ⟨_, hc, fun v' Fo hq => ⟨hq.1, by rw [hq.2]; exact hn.1.2, by rw [hq.2]; exact h⟩⟩⟩
/-- A call whose answer is told by R alone. -/
theorem a_callR {f : FuncId} {args : List Operand} {tys : Array TypeId} {ags : List T} {R : T → Prop} (hc : AC P f ags [] fun v Fo => Fo = [] ∧ R v) (ha : Fzs t L F args ags) (hn : (noLs ags && dstB n (some i)) = true) (h : ∀ v, R v → v.keys = [] ∧ K ⟨(i, v) :: t, L, F⟩) :
    aop P y n ⟨some i, .call ⟨.value (.func f), args.toArray, tys⟩, ty, pos, af, g⟩ ⟨t, L, F⟩ K := by
  simp only [Bool.and_eq_true] at hn
  refine ⟨hn.2, ?_⟩
  simp only [show (⟨t, L, F⟩ : St).ev (.func f) = .fn f [] from rfl, List.map_nil, List.append_nil, List.toList_toArray, ha.ok]
  exact .inr ⟨hn.1, .inl ⟨_, hc, fun v' Fo hq => ⟨hq.1, (h v' hq.2).1, (h v' hq.2).2⟩⟩⟩
/-- A call that is handed all foreign objects. -/
theorem a_callF {f : FuncId} {args : List Operand} {tys : Array TypeId} {ags : List T} {R : T → List Ob → Prop} (hc : AC P f ags F R) (ha : Fzs t L F args ags) (hn : (noLs ags && dstB n (some i)) = true) (h : ∀ v Fo, R v Fo → K ⟨(i, v) :: t, L, Fo⟩) :
    aop P y n ⟨some i, .call ⟨.value (.func f), args.toArray, tys⟩, ty, pos, af, g⟩ ⟨t, L, F⟩ K := by
  simp only [Bool.and_eq_true] at hn
  refine ⟨hn.2, ?_⟩
  simp only [show (⟨t, L, F⟩ : St).ev (.func f) = .fn f [] from rfl, List.map_nil, List.append_nil, List.toList_toArray, ha.ok]
  exact .inr ⟨hn.1, .inr (.inl ⟨_, hc, fun v' Fo hq => h v' Fo hq⟩)⟩
/-- A function value is called; it is handed all foreign objects. -/
theorem a_callV {f : FuncId} {q : Nat} {ks : List Key} {args : List Operand} {tys : Array TypeId} {ags : List T} {R : T → List Ob → Prop} (hf : look t q = some (.fn f ks)) (hc : AC P f (ags ++ ks.map fun k => .pt k 0) F R) (ha : Fzs t L F args ags) (hn : (noLs (ags ++ ks.map fun k => .pt k 0) && dstB n (some i)) = true) (h : ∀ v Fo, R v Fo → K ⟨(i, v) :: t, L, Fo⟩) :
    aop P y n ⟨some i, .call ⟨.value (.tmp q), args.toArray, tys⟩, ty, pos, af, g⟩ ⟨t, L, F⟩ K := by
  simp only [Bool.and_eq_true] at hn
  refine ⟨hn.2, ?_⟩
  simp only [show (⟨t, L, F⟩ : St).ev (.tmp q) = .fn f ks from lk hf, List.toList_toArray, ha.ok]
  exact .inr ⟨hn.1, .inr (.inl ⟨_, hc, fun v' Fo hq => h v' Fo hq⟩)⟩
/-- The same, of a function that sees no object. -/
theorem a_callW {f : FuncId} {q : Nat} {args : List Operand} {tys : Array TypeId} {ags : List T} {v : T} (hf : look t q = some (.fn f [])) (hc : AC P f ags [] (isR v)) (ha : Fzs t L F args ags) (hn : (noLs ags && v.keys.isEmpty && dstB n (some i)) = true) (h : K ⟨(i, v) :: t, L, F⟩) :
    aop P y n ⟨some i, .call ⟨.value (.tmp q), args.toArray, tys⟩, ty, pos, af, g⟩ ⟨t, L, F⟩ K := by
  simp only [Bool.and_eq_true, List.isEmpty_iff] at hn
  refine ⟨hn.2, ?_⟩
  simp only [show (⟨t, L, F⟩ : St).ev (.tmp q) = .fn f [] from lk hf, List.map_nil, List.append_nil, List.toList_toArray, ha.ok]
  exact .inr ⟨hn.1.1, .inl ⟨_, hc, fun v' Fo hq => ⟨hq.1, by rw [hq.2]; exact hn.1.2, by rw [hq.2]; exact h⟩⟩⟩

/-- A call of a function that hands back a new object. -/
theorem a_callN {f : FuncId} {args : List Operand} {tys : Array TypeId} {ags : List T} {R : T → Ob → Prop} (hc : AN P f ags R) (ha : Fzs t L F args ags) (hn : (noLs ags && (⟨t, L, F⟩ : St).cleanB i && dstB n (some i)) = true) (h : ∀ r o, R r o → K ⟨(i, tbk [i] r) :: t, (i, o) :: L, F⟩) :
    aop P y n ⟨some i, .call ⟨.value (.func f), args.toArray, tys⟩, ty, pos, af, g⟩ ⟨t, L, F⟩ K := by
  simp only [Bool.and_eq_true] at hn
  refine ⟨hn.2, ?_⟩
  simp only [show (⟨t, L, F⟩ : St).ev (.func f) = .fn f [] from rfl, List.map_nil, List.append_nil, List.toList_toArray, ha.ok]
  exact .inr ⟨hn.1.1, .inr (.inr (.inl ⟨_, i, hc, hn.1.2, fun r o hq => h r o hq⟩))⟩
/-- A call that is handed all foreign objects and hands back a new one. -/
theorem a_callM {f : FuncId} {args : List Operand} {tys : Array TypeId} {ags : List T} {R : T → List Ob → Ob → Prop} (hc : AM P f ags F R) (ha : Fzs t L F args ags) (hn : (noLs ags && (⟨t, L, F⟩ : St).cleanB i && dstB n (some i)) = true) (h : ∀ r Fo o, R r Fo o → K ⟨(i, tbk [i] r) :: t, (i, o) :: L, Fo⟩) :
    aop P y n ⟨some i, .call ⟨.value (.func f), args.toArray, tys⟩, ty, pos, af, g⟩ ⟨t, L, F⟩ K := by
  simp only [Bool.and_eq_true] at hn
  refine ⟨hn.2, ?_⟩
  simp only [show (⟨t, L, F⟩ : St).ev (.func f) = .fn f [] from rfl, List.map_nil, List.append_nil, List.toList_toArray, ha.ok]
  exact .inr ⟨hn.1.1, .inr (.inr (.inr ⟨_, i, hc, hn.1.2, fun r Fo o hq => h r Fo o hq⟩))⟩

/-! in a row of operations (o_) -/
theorem o_v (hY : TyOk P y) {op : Op} {v : T} (hv : pval y ⟨t, L, F⟩ op = some v) (hq : (quietOp op && dstB n (some i)) = true) (h : So P n ops r Q ⟨(i, v) :: t, L, F⟩) : So P n ops (⟨some i, op, ty, pos, af, none⟩ :: r) Q ⟨t, L, F⟩ := by
  simp only [Bool.and_eq_true] at hq
  exact s_v hY hv hq.1 hq.2 h
theorem o_a (hY : TyOk P y) {op : Op} {dst : Option Tmp} {σ : St} (h : aop P y n ⟨dst, op, ty, pos, af, none⟩ σ (So P n ops r Q)) : So P n ops (⟨dst, op, ty, pos, af, none⟩ :: r) Q σ := So.of_aop hY rfl h

variable {op : Op} {dst : Option Tmp} {j q : Nat} {want : Bool} {b : Bool}
theorem g_y (hj : (ops[j]?).bind (·.dst) = some q) (hb : look t q = some (.d (.b want))) (h : So P n ops (⟨dst, op, ty, pos, af, none⟩ :: r) Q ⟨t, L, F⟩) : So P n ops (⟨dst, op, ty, pos, af, some (j, want)⟩ :: r) Q ⟨t, L, F⟩ := s_gy hj (lk hb) h
theorem g_n (hY : TyOk P y) (hj : (ops[j]?).bind (·.dst) = some q) (hb : look t q = some (.d (.b (!want)))) (hi : dstB n (some i) = true) (h : So P n ops r Q ⟨(i, .un) :: t, L, F⟩) : So P n ops (⟨some i, op, ty, pos, af, some (j, want)⟩ :: r) Q ⟨t, L, F⟩ := s_gn hY hj (lk hb) (by cases want <;> rfl) hi h
theorem g_u (hY : TyOk P y) (hj : (ops[j]?).bind (·.dst) = some q) (hb : look t q = some .un) (hi : dstB n (some i) = true) (h : So P n ops r Q ⟨(i, .un) :: t, L, F⟩) : So P n ops (⟨some i, op, ty, pos, af, some (j, want)⟩ :: r) Q ⟨t, L, F⟩ := s_gu hY hj (lk hb) hi h
theorem g_s (hj : (ops[j]?).bind (·.dst) = some q) (hb : look t q = some (.d (.b b))) (h1 : b = true → So P n ops (⟨dst, op, ty, pos, af, some (j, want)⟩ :: r) Q ⟨(q, .d (.b true)) :: t, L, F⟩) (h2 : b = false → So P n ops (⟨dst, op, ty, pos, af, some (j, want)⟩ :: r) Q ⟨(q, .d (.b false)) :: t, L, F⟩) : So P n ops (⟨dst, op, ty, pos, af, some (j, want)⟩ :: r) Q ⟨t, L, F⟩ := s_gs rfl hj (lk hb) h1 h2
theorem c_t {x z : Code} (hc : look t q = some (.d (.b true))) (h : Sc P n x (Sk P n Q k) ⟨t, L, F⟩) : Sc P n (.cond (.tmp q) x z) (Sk P n Q k) ⟨t, L, F⟩ := s_ct (lk hc) h
theorem c_f {x z : Code} (hc : look t q = some (.d (.b false))) (h : Sc P n z (Sk P n Q k) ⟨t, L, F⟩) : Sc P n (.cond (.tmp q) x z) (Sk P n Q k) ⟨t, L, F⟩ := s_cf (lk hc) h
theorem c_s {x z : Code} (hc : look t q = some (.d (.b b))) (h1 : b = true → Sc P n x (Sk P n Q k) ⟨(q, .d (.b true)) :: t, L, F⟩) (h2 : b = false → Sc P n z (Sk P n Q k) ⟨(q, .d (.b false)) :: t, L, F⟩) : Sc P n (.cond (.tmp q) x z) (Sk P n Q k) ⟨t, L, F⟩ := s_cs (lk hc) h1 h2

/-! the answer -/
variable {R : T → List Ob → Prop}
theorem r_of {rs : List ResultVar} {σ : St} (h : aret y σ rs R) : retQ y rs R .ret σ := h
theorem r_on {rs : List ResultVar} {σ : St} (h : aret y σ rs R) : retQ y rs R .normal σ := h
theorem r_d {x : D} (hx : look t q = some (.d x)) (h : R (.d x) F) : aret y ⟨t, L, F⟩ [.tmp q] R := by
  simp only [aret, rv, lk (L := L) (F := F) hx]
  exact ⟨rfl, h⟩
theorem r_n (hx : look t q = some .nl) (h : R (.d (.sl [])) F) : aret y ⟨t, L, F⟩ [.tmp q] R := by
  simp only [aret, rv, lk (L := L) (F := F) hx]
  exact ⟨rfl, h⟩
theorem r_w {kk : Key} {m : Nat} {e : TypeId} {sz : Nat} {xs : List D} (hx : look t q = some (.rw kk m)) (hk : obq L F kk = some (.row e sz xs)) (hm : m = xs.length) (h : R (.d (.sl xs)) F) : aret y ⟨t, L, F⟩ [.tmp q] R := by
  simp only [aret, rv, lk (L := L) (F := F) hx]
  have : (⟨t, L, F⟩ : St).frz (.rw kk m) = .d (.sl xs) := by simp only [St.frz, obq_eq, hk]; rw [if_pos hm]
  show ((⟨t, L, F⟩ : St).frz (.rw kk m)).noL = true ∧ R ((⟨t, L, F⟩ : St).frz (.rw kk m)) F
  rw [this]
  exact ⟨rfl, h⟩
theorem r_m {j m : Nat} {e : TypeId} {sz : Nat} {xs : List D} (hx : look t q = some (.rf (.l j) m)) (hk : look L j = some (.mr e sz xs)) (hm : m = xs.length) (h : R (.d (.sl xs)) F) : aret y ⟨t, L, F⟩ [.tmp q] R := by
  simp only [aret, rv, lk (L := L) (F := F) hx, aretV, hk]
  exact ⟨hm, h⟩
theorem r_c {tt : TypeId} {kk : Key} {x : D} (hx : look t q = some (.pt kk 0)) (hl : ldq y L F tt (.pt kk 0) = some (.d x)) (h : R (.d x) F) : aret y ⟨t, L, F⟩ [.cell q tt] R := by
  simp only [aret, rv, lk (L := L) (F := F) hx, ldq_ok (t := t) hl]
  exact ⟨rfl, h⟩
theorem r_0 (h : R .un F) : aret y ⟨t, L, F⟩ [] R := h
theorem r_2 {q' : Nat} {x z : D} (hx : look t q = some (.d x)) (hz : look t q' = some (.d z)) (h : R (.tu [x, z]) F) : aret y ⟨t, L, F⟩ [.tmp q, .tmp q'] R := by
  refine .inl ⟨x, z, ?_, ?_, h⟩
  · simp only [rvD, rv, lk (L := L) (F := F) hx, Option.map_some]; rfl
  · simp only [rvD, rv, lk (L := L) (F := F) hz, Option.map_some]; rfl
theorem r_4 {q' q2 q3 : Nat} {x z u v : D} (hx : look t q = some (.d x)) (hz : look t q' = some (.d z)) (hu : look t q2 = some (.d u)) (hv : look t q3 = some (.d v)) (h : R (.tu [x, z, u, v]) F) : aret y ⟨t, L, F⟩ [.tmp q, .tmp q', .tmp q2, .tmp q3] R := by
  refine ⟨x, z, u, v, ?_, ?_, ?_, ?_, h⟩
  · simp only [rvD, rv, lk (L := L) (F := F) hx, Option.map_some]; rfl
  · simp only [rvD, rv, lk (L := L) (F := F) hz, Option.map_some]; rfl
  · simp only [rvD, rv, lk (L := L) (F := F) hu, Option.map_some]; rfl
  · simp only [rvD, rv, lk (L := L) (F := F) hv, Option.map_some]; rfl
end
end Go.Proofs.Ytmclamindmnigaa.Ax

namespace Go.Proofs.Ytmclamindmnigaa.Ax
open Go.RowKit
variable {P : Program} {y : Ty} {n : Nat}

/-! ### A region that draws its order -/
def dfree (ds : List Nat) (l : Array Bool) : Prop := ∀ d ∈ ds, l.getD d false = false

def wpI (P : Program) (ops : Array Oper) (Q : Exit → Act → World → Prop) (S : World → Prop) (ds : List Nat) : Nat → Array Bool → Act → World → Prop
  | 0, l, a, w => Region.ready .any ops l = [] ∧ Q .normal a w
  | f + 1, l, a, w => (Region.ready .any ops l = [] → Q .normal a w) ∧
    ∀ i ∈ Region.ready .any ops l, wpOp P ops Q i (fun a' w' => (dfree ds (l.setIfInBounds i true) → S w') ∧ wpI P ops Q S ds f (l.setIfInBounds i true) a' w') a w

section
variable {ops : Array Oper} {Q : Exit → Act → World → Prop} {S S' : World → Prop} {ds : List Nat}
theorem wpI_any : ∀ (f : Nat) (l : Array Bool) (a : Act) (w : World), wpI P ops Q S ds f l a w → wpAny P .any ops Q f l a w
  | 0, _, _, _, h => h
  | f + 1, _, _, _, h => ⟨h.1, fun i hi => wpOp_mono (fun a' w' h' => wpI_any f _ a' w' h'.2) (h.2 i hi)⟩
theorem wpI_mono (hS : ∀ w, S w → S' w) : ∀ (f : Nat) (l : Array Bool) (a : Act) (w : World), wpI P ops Q S ds f l a w → wpI P ops Q S' ds f l a w
  | 0, _, _, _, h => h
  | f + 1, _, _, _, h => ⟨h.1, fun i hi => wpOp_mono (fun a' w' h' => ⟨fun hd => hS _ (h'.1 hd), wpI_mono hS f _ a' w' h'.2⟩) (h.2 i hi)⟩

/-- d waits for i. -/
def waits (ops : Array Oper) (i : Nat) : Nat → Nat → Bool
  | 0, _ => false
  | f + 1, d => match ops[d]? with
    | some o => (o.after.toList.any fun e => Region.binds .any e && e.on == i) || o.after.toList.any fun e => Region.binds .any e && waits ops i f e.on
    | none => false
def shutL (ops : Array Oper) (l : Array Bool) : Prop := ∀ j oj, ops[j]? = some oj → l.getD j false = true → ∀ e ∈ oj.after, Region.binds .any e = true → l.getD e.on false = true
def shutB (ops : Array Oper) (l : Array Bool) : Bool := (List.range ops.size).all fun j => !l.getD j false || match ops[j]? with
  | some o => o.after.toList.all fun e => !Region.binds .any e || l.getD e.on false
  | none => true
theorem shutB_ok {l : Array Bool} (h : shutB ops l = true) : shutL ops l := by
  intro j oj hj hl e he hb
  have hlt : j < ops.size := (Array.getElem?_eq_some_iff.1 hj).1
  have h1 := List.all_eq_true.1 h j (List.mem_range.2 hlt)
  simp only [hl, hj, Bool.not_true, Bool.false_or] at h1
  have h2 := List.all_eq_true.1 h1 e (by simpa using he)
  simpa [hb] using h2
theorem shutL.set {l : Array Bool} {i : Nat} (h : shutL ops l) (hi : i ∈ Region.ready .any ops l) : shutL ops (l.setIfInBounds i true) := by
  obtain ⟨_, oi, hoi, hall⟩ := mem_ready.1 hi
  intro j oj hj hl e he hb
  by_cases hij : i = j
  · subst hij
    have : oj = oi := Option.some.inj (hj.symm.trans hoi)
    subst this
    exact getD_set_true (hall e he hb)
  · rw [getD_set_ne false hij] at hl
    exact getD_set_true (h j oj hj hl e he hb)
theorem waits_listed {l : Array Bool} {i : Nat} (hc : shutL ops l) : ∀ (f d : Nat), waits ops i f d = true → (∃ o, ops[d]? = some o ∧ ∀ e ∈ o.after, Region.binds .any e = true → l.getD e.on false = true) → l.getD i false = true
  | 0, _, h, _ => by simp [waits] at h
  | f + 1, d, h, ⟨o, ho, hall⟩ => by
    unfold waits at h
    rw [ho] at h
    simp only [Bool.or_eq_true] at h
    rcases h with h | h
    · obtain ⟨e, he, h1⟩ := List.any_eq_true.1 h
      simp only [Bool.and_eq_true, beq_iff_eq] at h1
      rw [← h1.2]
      exact hall e (by simpa using he) h1.1
    · obtain ⟨e, he, h1⟩ := List.any_eq_true.1 h
      simp only [Bool.and_eq_true] at h1
      have hle := hall e (by simpa using he) h1.1
      have h2 := h1.2
      refine waits_listed hc f e.on h2 ?_
      unfold waits at h2
      cases f with
      | zero => simp [waits] at h2
      | succ f =>
        cases hq : ops[e.on]? with
        | none => simp [hq] at h2
        | some o2 => exact ⟨o2, rfl, fun e2 he2 hb2 => hc e.on o2 hq hle e2 he2 hb2⟩
theorem not_listed {l : Array Bool} {i : Nat} (h : l.getD i true = false) : l.getD i false ≠ true := by
  intro h2
  rcases Nat.lt_or_ge i l.size with h' | h'
  · simp [h'] at h h2
    rw [h] at h2; cases h2
  · simp [Array.getElem?_eq_none h'] at h2
theorem waits_not_ready {l : Array Bool} {i d f : Nat} (hc : shutL ops l) (hr : waits ops i f d = true) (hun : l.getD i true = false) : d ∉ Region.ready .any ops l := by
  intro hd
  obtain ⟨_, o, ho, hall⟩ := mem_ready.1 hd
  exact not_listed hun (waits_listed hc f d hr ⟨o, ho, hall⟩)

theorem wpI_first {i : Nat} {oi : Oper} {v : Value} (hi : ops[i]? = some oi) (hsel : ∀ (j : Nat) (o : Oper) cs b, ops[j]? = some o → o.op ≠ .select cs b)
    (hQ : ∀ c a w, Q (.panic c) (a.put oi.dst v) w → Q (.panic c) a w) (m : Nat) (hids : i ∉ ds) :
    ∀ (f : Nat) (l : Array Bool) (a : Act) (w : World),
      (∀ j oj, ops[j]? = some oj → j ≠ i → l.getD j true = false → (∀ e ∈ oj.after, Region.binds .any e = true → e.on ≠ i) → oi.apart ops oj = true) →
      shutL ops l → dfree ds l → (∀ d ∈ ds, waits ops i m d = true) →
      i ∈ Region.ready .any ops l → YieldsIf P ops S oi v a → S w →
      wpI P ops Q S ds f (l.setIfInBounds i true) (a.put oi.dst v) w → wpI P ops Q S ds (f + 1) l a w := by
  intro f
  induction f with
  | zero =>
    intro l a w _ _ _ _ hr hy hS H
    refine ⟨fun h => (by rw [h] at hr; cases hr), fun j hj => ?_⟩
    by_cases hji : j = i
    · subst hji; exact hy.wpOp hi hS ⟨fun _ => hS, H⟩
    · have := ready_mono hj hji
      rw [H.1] at this
      cases this
  | succ f ih =>
    intro l a w hfree hc hdf hd hr hy hS H
    refine ⟨fun h => (by rw [h] at hr; cases hr), fun j hj => ?_⟩
    by_cases hji : j = i
    · subst hji; exact hy.wpOp hi hS ⟨fun _ => hS, H⟩
    · have h1 := H.2 j (ready_mono hj hji)
      obtain ⟨hjun, oj, hoj, hall⟩ := mem_ready.1 hj
      have hiun := (mem_ready.1 hr).1
      have hnot : ∀ e ∈ oj.after, Region.binds .any e = true → e.on ≠ i := fun e he hb heq => by
        have h1 := hall e he hb
        rw [heq] at h1
        exact not_listed hiun h1
      have hjd : j ∉ ds := fun hm => waits_not_ready hc (hd j hm) hiun hj
      have h2 := wpOp_putIf hoj (hfree j oj hoj hji hjun hnot) (fun cs b => hsel i oi cs b hi) (fun cs b => hsel j oj cs b hoj) hQ hy h1
      have hfree' : ∀ k ok, ops[k]? = some ok → k ≠ i → (l.setIfInBounds j true).getD k true = false →
          (∀ e ∈ ok.after, Region.binds .any e = true → e.on ≠ i) → oi.apart ops ok = true := fun k ok hk hki hun hno => by
        refine hfree k ok hk hki ?_ hno
        by_cases hjk : j = k
        · subst hjk; exact hjun
        · rw [getD_set_ne true hjk] at hun; exact hun
      have hdf1 : dfree ds (l.setIfInBounds j true) := fun d hm => by
        rw [getD_set_ne false (fun e => hjd (by rw [e]; exact hm))]; exact hdf d hm
      have hdf2 : dfree ds ((l.setIfInBounds i true).setIfInBounds j true) := fun d hm => by
        rw [getD_set_ne false (fun e => hjd (by rw [e]; exact hm)), getD_set_ne false (fun e => hids (by rw [e]; exact hm))]; exact hdf d hm
      refine wpOp_mono (fun a' w' h3 => ⟨fun _ => h3.2.1 hdf2, ih (l.setIfInBounds j true) a' w' hfree' (hc.set hj) hdf1 hd (ready_mono hr (Ne.symm hji)) h3.1 (h3.2.1 hdf2) ?_⟩) h2
      rw [Array.setIfInBounds_comm _ _ hji]
      exact h3.2.2
end

def SS (w0 : World) (I0 : Im) (B : Nat → Prop) (w : World) : Prop := (∃ I, Ext w0 I0 w I) ∧ ∀ b, B b → w.heap[b]? = w0.heap[b]?

def Sd (P : Program) (n : Nat) (ops : Array Oper) (ds : List Nat) (f : Nat) (l : Array Bool) (Q : Exit → St → Prop) (σ : St) : Prop :=
  ∀ E : En, E.n = n → ∀ a w I β, Rel E σ a w I β → ∀ w0 I0 B, Ext w0 I0 w I → (dfree ds l → (∀ b, B b → w.heap[b]? = w0.heap[b]?) ∧ ∀ b, B b → ∃ i c, look σ.L i = some (.var c) ∧ β.blk (.l i) = b) → wpI P ops (Qr E Q) (SS w0 I0 B) ds f l a w

theorem Rel.drew {E : En} {σ : St} {a : Act} {w : World} {I : Im} {β : Be} (R : Rel E σ a w I β) : Rel E σ a { w with drawn := w.drawn + 1 } I β := by
  have e : Ext w I { w with drawn := w.drawn + 1 } I := ⟨Nat.le_refl _, fun _ => Nat.le_refl _, fun _ _ _ => rfl⟩
  exact R.quiet e ⟨rfl, rfl, rfl, Nat.le_refl _, fun _ _ _ => ⟨rfl, rfl⟩⟩ R.ob.new

def noPan (Q : Exit → St → Prop) : Prop := ∀ c σ, ¬ Q (.panic c) σ
theorem noPan_ret {rs : List ResultVar} {R : T → List Ob → Prop} : noPan (retQ y rs R) := fun _ _ h => h
theorem noPan_sk {Q : Exit → St → Prop} (h : noPan Q) : ∀ k : List Kf, noPan (Sk P n Q k)
  | [] => h
  | .seq _ :: k => fun c σ hq => noPan_sk h k c σ hq
  | .blk _ :: k => fun c σ hq => noPan_sk h k c σ hq
  | .lp _ _ :: k => fun c σ hq => noPan_sk h k c σ hq

section
variable {Q : Exit → St → Prop} {ops : Array Oper} {ds : List Nat} {f : Nat} {l : Array Bool} {σ : St}

theorem d_start {id : Nat} (hm : P.follows .mixedOrders = true) (ds : List Nat) (h : Sd P n ops ds ops.size (Array.replicate ops.size false) Q σ) : Sc P n (.region id ops true) Q σ := fun E hE a w I β R => by
  refine wp_region_any hm (wpI_any _ _ _ _ (h E hE a _ I β R.drew { w with drawn := w.drawn + 1 } I (fun _ => False) (Ext.refl _ _) (fun _ => ⟨fun _ h => h.elim, fun _ h => h.elim⟩)))
theorem d_end (hr : Region.ready .any ops l = []) (h : Q .normal σ) : Sd P n ops ds f l Q σ := fun E hE a w I β R w0 I0 B e hB => by
  cases f with
  | zero => exact ⟨hr, σ, I, β, R, h⟩
  | succ f => exact ⟨fun _ => ⟨σ, I, β, R, h⟩, fun i hi => by rw [hr] at hi; cases hi⟩

theorem oneOp_wpOp (hY : TyOk P y) {E : En} {a : Act} {w : World} {I : Im} {β : Be} (R : Rel E σ a w I β) {i : Nat} {o : Oper} (ho : ops[i]? = some o) {K : St → Prop} {Q : Exit → Act → World → Prop} (h : oneOp P y E.n ops o σ K) : wpOp P ops Q i (Kz E w I σ β (isSt o.op) K) a w := by
  have h1 := oneOp_ok hY R (Q := Q) h
  unfold wpOp
  simp only [ho]
  split
  · rename_i hw; rw [if_pos hw] at h1; exact .inl h1
  · rename_i hw; rw [if_neg hw] at h1; exact h1

theorem d_all (hY : TyOk P y) {rs : List Nat} (hr : Region.ready .any ops l = rs) (hne : rs ≠ []) (hst : ∀ i ∈ rs, ∀ o, ops[i]? = some o → isSt o.op = true → i ∈ ds ∧ i < l.size)
    (h : ∀ i ∈ rs, ∃ o, ops[i]? = some o ∧ ∃ K, oneOp P y n ops o σ K ∧ ∀ τ, K τ → Sd P n ops ds f (l.setIfInBounds i true) Q τ) : Sd P n ops ds (f + 1) l Q σ := fun E hE a w I β R w0 I0 B e hB => by
  refine ⟨fun h0 => (by rw [hr] at h0; exact absurd h0 hne), fun i hi => ?_⟩
  rw [hr] at hi
  obtain ⟨o, ho, K, h1, hK⟩ := h i hi
  subst hE
  refine wpOp_mono ?_ (oneOp_wpOp hY R ho h1)
  rintro a' w' ⟨σ', I', β', R', h'0, e', v'⟩
  have h' := hK _ h'0
  have hdf : dfree ds (l.setIfInBounds i true) → dfree ds l ∧ isSt o.op = false := fun hd => by
    refine ⟨fun d hm => ?_, ?_⟩
    · by_cases hid : i = d
      · subst hid
        have := hd i hm
        rcases Nat.lt_or_ge i l.size with hl | hl
        · simp [hl] at this
        · simp [Array.getElem?_eq_none hl]
      · have := hd d hm
        rwa [getD_set_ne false hid] at this
    · cases hq : isSt o.op with
      | false => rfl
      | true =>
        obtain ⟨h3, h4⟩ := hst i hi o ho hq
        have := hd i h3
        simp [h4] at this
  have hS : dfree ds (l.setIfInBounds i true) → (∀ b, B b → w'.heap[b]? = w0.heap[b]?) ∧ ∀ b, B b → ∃ j c, look σ'.L j = some (.var c) ∧ β'.blk (.l j) = b := fun hd => by
    obtain ⟨hd1, hd2⟩ := hdf hd
    obtain ⟨b1, b2⟩ := hB hd1
    refine ⟨fun b hb => ?_, fun b hb => ?_⟩
    · obtain ⟨j, c, hj, rfl⟩ := b2 b hb
      exact ((v' j c hj).1 hd2).trans (b1 _ hb)
    · obtain ⟨j, c, hj, rfl⟩ := b2 b hb
      obtain ⟨_, c', h3, h4⟩ := v' j c hj
      exact ⟨j, c', h3, h4⟩
  exact ⟨fun hd => ⟨⟨I', e.trans e'⟩, (hS hd).1⟩, h' E rfl a' w' I' β' R' w0 I0 B (e.trans e') hS⟩

theorem d_one (hY : TyOk P y) {i : Nat} {o : Oper} (hr : Region.ready .any ops l = [i]) (ho : ops[i]? = some o) (hst : (!isSt o.op || (ds.contains i && decide (i < l.size))) = true)
    {K : St → Prop} (hK : ∀ τ, K τ → Sd P n ops ds f (l.setIfInBounds i true) Q τ) (h : oneOp P y n ops o σ K) : Sd P n ops ds (f + 1) l Q σ := by
  refine d_all hY hr (by simp) (fun j hj o' ho' hs => ?_) (fun j hj => ?_)
  · simp only [List.mem_singleton] at hj
    subst hj
    rw [ho] at ho'
    cases ho'
    rw [hs] at hst
    simpa using hst
  · simp only [List.mem_singleton] at hj
    subst hj
    exact ⟨o, ho, K, h, hK⟩
theorem d_two (hY : TyOk P y) {i j : Nat} {o o' : Oper} (hr : Region.ready .any ops l = [i, j]) (ho : ops[i]? = some o) (ho' : ops[j]? = some o') (hst : isSt o.op = false) (hst' : isSt o'.op = false)
    {K K' : St → Prop} (hK : ∀ τ, K τ → Sd P n ops ds f (l.setIfInBounds i true) Q τ) (hK' : ∀ τ, K' τ → Sd P n ops ds f (l.setIfInBounds j true) Q τ) (h : oneOp P y n ops o σ K) (h' : oneOp P y n ops o' σ K') : Sd P n ops ds (f + 1) l Q σ := by
  refine d_all hY hr (by simp) (fun k hk q hq hs => ?_) (fun k hk => ?_)
  · simp only [List.mem_cons, List.not_mem_nil, or_false] at hk
    rcases hk with rfl | rfl
    · rw [ho] at hq; cases hq; rw [hst] at hs; cases hs
    · rw [ho'] at hq; cases hq; rw [hst'] at hs; cases hs
  · simp only [List.mem_cons, List.not_mem_nil, or_false] at hk
    rcases hk with rfl | rfl
    · exact ⟨o, ho, K, h, hK⟩
    · exact ⟨o', ho', K', h', hK'⟩

def noSel (ops : Array Oper) : Bool := ops.toList.all fun o => match o.op with
  | .select _ _ => false
  | _ => true
theorem noSel_ok (h : noSel ops = true) : ∀ (j : Nat) (o : Oper) cs b, ops[j]? = some o → o.op ≠ .select cs b := by
  intro j o cs b hj hs
  have := List.all_eq_true.1 h o (by simpa using Array.mem_of_getElem? hj)
  rw [hs] at this
  cases this
def aloneB (ops : Array Oper) (l : Array Bool) (i : Nat) (oi : Oper) : Bool := (List.range ops.size).all fun j => j == i || l.getD j true || match ops[j]? with
  | some oj => (oj.after.toList.any fun e => Region.binds .any e && e.on == i) || oi.apart ops oj
  | none => true
theorem aloneB_ok {i : Nat} {oi : Oper} (h : aloneB ops l i oi = true) : ∀ j oj, ops[j]? = some oj → j ≠ i → l.getD j true = false → (∀ e ∈ oj.after, Region.binds .any e = true → e.on ≠ i) → oi.apart ops oj = true := by
  intro j oj hj hji hl hno
  have := List.all_eq_true.1 h j (List.mem_range.2 (Array.getElem?_eq_some_iff.1 hj).1)
  simp only [hj, hl, Bool.or_eq_true, beq_iff_eq, hji, Bool.false_eq_true, false_or] at this
  rcases this with h1 | h1
  · obtain ⟨e, he, h2⟩ := List.any_eq_true.1 h1
    simp only [Bool.and_eq_true, beq_iff_eq] at h2
    exact absurd h2.2 (hno e (by simpa using he) h2.1)
  · exact h1

def dfreeB (ds : List Nat) (l : Array Bool) : Bool := ds.all fun d => !l.getD d false
/-- A load reads no foreign object. -/
def ownLd (t : List (Nat × T)) : Op → Bool
  | .load _ (.tmp q) => match look t q with
    | some (.pt (.f _) _) => false
    | _ => true
  | .load _ _ => false
  | _ => true

theorem ownLd_ok {t : List (Nat × T)} {L : List (Nat × Ob)} {F : List Ob} {op : Op} (h : ownLd t op = true) : ∀ ty x k off, op = .load ty x → (⟨t, L, F⟩ : St).ev x = .pt k off → ∃ i, k = .l i := by
  rintro ty x k off rfl hx
  cases x with
  | tmp q =>
    simp only [St.ev, St.get] at hx
    cases hq : look t q with
    | none => rw [hq] at hx; cases hx
    | some z =>
      rw [hq] at hx
      simp only [Option.getD_some] at hx
      subst hx
      simp only [ownLd, hq] at h
      cases k with
      | l i => exact ⟨i, rfl⟩
      | f i => cases h
  | _ => simp [ownLd] at h

/-- An operation that changes nothing is taken first: nothing that may come before it disturbs it. -/
theorem d_take (hY : TyOk P y) {t : List (Nat × T)} {L : List (Nat × Ob)} {F : List Ob} {i : Nat} {oi : Oper} {x : T} (hi : ops[i]? = some oi) (hb : ((Region.ready .any ops l).contains i && aloneB ops l i oi && shutB ops l && dfreeB ds l && ds.all (waits ops i ops.size) && noSel ops && dstB n oi.dst && !ds.contains i && ownLd t oi.op && quietOp oi.op) = true) (hQ : noPan Q)
    (hw : oi.guard = none ∨ ∃ j want q, oi.guard = some (j, want) ∧ (ops[j]?).bind (·.dst) = some q ∧ look t q = some (.d (.b want))) (hv : pval y ⟨t, L, F⟩ oi.op = some x) (h : Sd P n ops ds f (l.setIfInBounds i true) Q ((⟨t, L, F⟩ : St).put oi.dst x)) : Sd P n ops ds (f + 1) l Q ⟨t, L, F⟩ := fun E hE a w I β R w0 I0 B e hB => by
  subst hE
  simp only [Bool.and_eq_true, Bool.not_eq_true'] at hb
  obtain ⟨⟨⟨⟨⟨⟨⟨⟨⟨b1, b2⟩, b3⟩, b4⟩, b5⟩, b6⟩, b7⟩, b8⟩, b9⟩, b10⟩ := hb
  have hdf : dfree ds l := fun d hd => by simpa using List.all_eq_true.1 b4 d hd
  obtain ⟨hB1, hB2⟩ := hB hdf
  let B1 : Nat → Prop := fun b => ∃ j c, look L j = some (.var c) ∧ β.blk (.l j) = b
  have hstab : ∀ w', SS w I B1 w' → Stab (fun k => ∃ i, k = .l i) w I ⟨t, L, F⟩ β w' := fun w' ⟨h1, h2⟩ => ⟨h1, fun k c ⟨j, hj⟩ hk => by subst hj; exact h2 _ ⟨j, c, hk, rfl⟩⟩
  have hcv : ∀ s d z, oi.op = .convert s d z → ∃ u, P.underlying s = some u := fun s d z hz => by rw [hz] at b10; cases b10
  obtain ⟨v, hrun, hvx⟩ := pval_ok (S := SS w I B1) hstab hY R hv (fun ty z k off hz hk => ownLd_ok b9 ty z k off hz hk) hcv
  have hd : ∀ j, oi.dst = some j → j < E.n := fun j hj => by rw [hj] at b7; simpa [dstB] using b7
  have hwant : Region.wanted oi (yielded ops a.tmps) = true := by
    rcases hw with hg | ⟨j, want, q, hg, hj, hq⟩
    · simp [Region.wanted, hg]
    · have := (yielded_of R hj).1 want (by simp only [St.get, hq, Option.getD_some])
      simp [Region.wanted, hg, this]
  have hyi : YieldsIf P ops (SS w I B1) oi v a := .inl ⟨hwant, hrun⟩
  have hmem : i ∈ Region.ready .any ops l := by simpa using b1
  have h1 := h E rfl _ w I β (R.put hd hvx) w I B1 (Ext.refl w I) (fun _ => ⟨fun _ _ => rfl, fun b ⟨j, c, hj, hb⟩ => ⟨j, c, (by cases oi.dst <;> exact hj), hb⟩⟩)
  have h2 := wpI_first (S := SS w I B1) hi (noSel_ok b6) (fun c a' w' hp => by obtain ⟨σ', _, _, _, hq⟩ := hp; exact absurd hq (hQ c σ')) ops.size (by simpa using b8) f l a w (aloneB_ok b2) (shutB_ok b3) hdf (fun d hd => List.all_eq_true.1 b5 d hd) hmem hyi ⟨⟨I, Ext.refl w I⟩, fun _ _ => rfl⟩ h1
  refine wpI_mono (fun w' ⟨⟨I', e'⟩, h3⟩ => ⟨⟨I', e.trans e'⟩, fun b hb => ?_⟩) _ _ _ _ h2
  obtain ⟨j, c, hj, hjb⟩ := hB2 b hb
  exact (h3 b ⟨j, c, hj, hjb⟩).trans (hB1 b hb)

/-- An operation whose guard says no. -/
theorem d_skip (hY : TyOk P y) {t : List (Nat × T)} {L : List (Nat × Ob)} {F : List Ob} {i : Nat} {oi : Oper} (hi : ops[i]? = some oi) (hb : ((Region.ready .any ops l).contains i && aloneB ops l i oi && shutB ops l && dfreeB ds l && ds.all (waits ops i ops.size) && noSel ops && dstB n oi.dst && !ds.contains i) = true) (hQ : noPan Q)
    {j q : Nat} {want : Bool} (hg : oi.guard = some (j, want)) (hj : (ops[j]?).bind (·.dst) = some q) (hq : look t q = some (.d (.b (!want))) ∨ look t q = some .un) (h : Sd P n ops ds f (l.setIfInBounds i true) Q ((⟨t, L, F⟩ : St).put oi.dst .un)) : Sd P n ops ds (f + 1) l Q ⟨t, L, F⟩ := fun E hE a w I β R w0 I0 B e hB => by
  subst hE
  simp only [Bool.and_eq_true, Bool.not_eq_true'] at hb
  obtain ⟨⟨⟨⟨⟨⟨⟨b1, b2⟩, b3⟩, b4⟩, b5⟩, b6⟩, b7⟩, b8⟩ := hb
  have hdf : dfree ds l := fun d hd => by simpa using List.all_eq_true.1 b4 d hd
  obtain ⟨hB1, hB2⟩ := hB hdf
  have hd : ∀ j, oi.dst = some j → j < E.n := fun j hj => by rw [hj] at b7; simpa [dstB] using b7
  have hwant : Region.wanted oi (yielded ops a.tmps) = false := by
    rcases hq with hq | hq
    · have := (yielded_of R hj).1 (!want) (by simp only [St.get, hq, Option.getD_some])
      simp only [Region.wanted, hg, this]
      cases want <;> rfl
    · have := (yielded_of R hj).2 (by simp only [St.get, hq, Option.getD_some])
      simp [Region.wanted, hg, this]
  have hyi : YieldsIf P ops (SS w0 I0 B) oi undef a := .inr ⟨hwant, rfl⟩
  have hmem : i ∈ Region.ready .any ops l := by simpa using b1
  have h1 := h E rfl _ w I β (R.put hd (x := .un) (v := undef) rfl) w0 I0 B e (fun _ => ⟨hB1, fun b hb => by obtain ⟨j, c, hj, hjb⟩ := hB2 b hb; exact ⟨j, c, (by cases oi.dst <;> exact hj), hjb⟩⟩)
  exact wpI_first hi (noSel_ok b6) (fun c a' w' hp => by obtain ⟨σ', _, _, _, hq⟩ := hp; exact absurd hq (hQ c σ')) ops.size (by simpa using b8) f l a w (aloneB_ok b2) (shutB_ok b3) hdf (fun d hd => List.all_eq_true.1 b5 d hd) hmem hyi ⟨⟨I, e⟩, hB1⟩ h1
end
end Go.Proofs.Ytmclamindmnigaa.Ax

namespace Go.Proofs.Ytmclamindmnigaa.Ax
open Go.RowKit
variable {P : Program} {y : Ty} {n : Nat}

/-- In which order a drawn region is gone through. -/
inductive Plan where
  | done
  | tk (i : Nat) (p : Plan)
  | one (i : Nat) (p : Plan)
  | two (i j : Nat) (p q : Plan)

def takeB (ops : Array Oper) (ds : List Nat) (l : Array Bool) (i : Nat) (oi : Oper) : Bool :=
  (Region.ready .any ops l).contains i && aloneB ops l i oi && shutB ops l && dfreeB ds l && ds.all (waits ops i ops.size) && noSel ops && !ds.contains i

def planB (ops : Array Oper) (ds : List Nat) : Nat → Array Bool → Plan → Bool
  | _, l, .done => (Region.ready .any ops l).isEmpty
  | f + 1, l, .tk i p => (match ops[i]? with
    | some oi => takeB ops ds l i oi
    | none => false) && planB ops ds f (l.setIfInBounds i true) p
  | f + 1, l, .one i p => (Region.ready .any ops l == [i]) && (match ops[i]? with
    | some o => !isSt o.op || (ds.contains i && decide (i < l.size))
    | none => false) && planB ops ds f (l.setIfInBounds i true) p
  | f + 1, l, .two i j p q => (Region.ready .any ops l == [i, j]) && (match ops[i]? with
    | some o => !isSt o.op || ds.contains i
    | none => false) && (match ops[j]? with
    | some o => !isSt o.op || ds.contains j
    | none => false) && planB ops ds f (l.setIfInBounds i true) p && planB ops ds f (l.setIfInBounds j true) q
  | 0, _, _ => false

def Sp (P : Program) (n : Nat) (ops : Array Oper) (ds : List Nat) (p : Plan) (Q : Exit → St → Prop) (σ : St) : Prop :=
  ∀ f l, planB ops ds f l p = true → Sd P n ops ds f l Q σ

section
variable {Q : Exit → St → Prop} {k : List Kf} {ops : Array Oper} {ds : List Nat} {p q : Plan} {t : List (Nat × T)} {L : List (Nat × Ob)} {F : List Ob} {i d : Nat} {ty : TypeId} {pos : String} {af : Array Edge} {op : Op}

theorem p_start {id : Nat} (hm : P.follows .mixedOrders = true) (ds : List Nat) (p : Plan) {l : List Oper} (hp : planB l.toArray ds l.length (Array.replicate l.length false) p = true) {σ : St} (h : Sp P n l.toArray ds p (Sk P n Q k) σ) : Sc P n (.region id l.toArray true) (Sk P n Q k) σ := by
  refine d_start hm ds ?_
  simp only [List.size_toArray]
  exact h _ _ hp
theorem p_done {σ : St} (h : Sk P n Q k .normal σ) : Sp P n ops ds .done (Sk P n Q k) σ := fun f l hp => by
  refine d_end ?_ h
  cases f <;> simpa [planB] using hp
theorem p_tk (hY : TyOk P y) {oi : Oper} {x : T} (hi : ops[i]? = some oi) (ho : oi = ⟨some d, op, ty, pos, af, none⟩) (hv : pval y ⟨t, L, F⟩ op = some x) (hq : (quietOp op && ownLd t op && dstB n (some d)) = true) (hQ : noPan Q) (h : Sp P n ops ds p (Sk P n Q k) ⟨(d, x) :: t, L, F⟩) : Sp P n ops ds (.tk i p) (Sk P n Q k) ⟨t, L, F⟩ := fun f l hp => by
  subst ho
  cases f with
  | zero => simp [planB] at hp
  | succ f =>
    simp only [planB, hi, takeB, Bool.and_eq_true] at hp
    simp only [Bool.and_eq_true] at hq
    obtain ⟨⟨⟨⟨⟨⟨⟨b1, b2⟩, b3⟩, b4⟩, b5⟩, b6⟩, b7⟩, hp⟩ := hp
    exact d_take hY hi (by simp only [Bool.and_eq_true]; exact ⟨⟨⟨⟨⟨⟨⟨⟨⟨b1, b2⟩, b3⟩, b4⟩, b5⟩, b6⟩, hq.2⟩, b7⟩, hq.1.2⟩, hq.1.1⟩) (noPan_sk hQ k) (.inl rfl) hv (h f _ hp)
theorem p_tkg (hY : TyOk P y) {j qq : Nat} {want : Bool} {oi : Oper} {x : T} (hi : ops[i]? = some oi) (ho : oi = ⟨some d, op, ty, pos, af, some (j, want)⟩) (hj : (ops[j]?).bind (·.dst) = some qq) (hb : look t qq = some (.d (.b want))) (hv : pval y ⟨t, L, F⟩ op = some x) (hq : (quietOp op && ownLd t op && dstB n (some d)) = true) (hQ : noPan Q) (h : Sp P n ops ds p (Sk P n Q k) ⟨(d, x) :: t, L, F⟩) : Sp P n ops ds (.tk i p) (Sk P n Q k) ⟨t, L, F⟩ := fun f l hp => by
  subst ho
  cases f with
  | zero => simp [planB] at hp
  | succ f =>
    simp only [planB, hi, takeB, Bool.and_eq_true] at hp
    simp only [Bool.and_eq_true] at hq
    obtain ⟨⟨⟨⟨⟨⟨⟨b1, b2⟩, b3⟩, b4⟩, b5⟩, b6⟩, b7⟩, hp⟩ := hp
    exact d_take hY hi (by simp only [Bool.and_eq_true]; exact ⟨⟨⟨⟨⟨⟨⟨⟨⟨b1, b2⟩, b3⟩, b4⟩, b5⟩, b6⟩, hq.2⟩, b7⟩, hq.1.2⟩, hq.1.1⟩) (noPan_sk hQ k) (.inr ⟨j, want, qq, rfl, hj, hb⟩) hv (h f _ hp)
theorem p_tkn (hY : TyOk P y) {j qq : Nat} {want : Bool} {oi : Oper} (hi : ops[i]? = some oi) (ho : oi = ⟨some d, op, ty, pos, af, some (j, want)⟩) (hj : (ops[j]?).bind (·.dst) = some qq) (hb : look t qq = some (.d (.b (!want))) ∨ look t qq = some .un) (hq : dstB n (some d) = true) (hQ : noPan Q) (h : Sp P n ops ds p (Sk P n Q k) ⟨(d, .un) :: t, L, F⟩) : Sp P n ops ds (.tk i p) (Sk P n Q k) ⟨t, L, F⟩ := fun f l hp => by
  subst ho
  cases f with
  | zero => simp [planB] at hp
  | succ f =>
    simp only [planB, hi, takeB, Bool.and_eq_true] at hp
    obtain ⟨⟨⟨⟨⟨⟨⟨b1, b2⟩, b3⟩, b4⟩, b5⟩, b6⟩, b7⟩, hp⟩ := hp
    exact d_skip hY hi (by simp only [Bool.and_eq_true]; exact ⟨⟨⟨⟨⟨⟨⟨b1, b2⟩, b3⟩, b4⟩, b5⟩, b6⟩, hq⟩, b7⟩) (noPan_sk hQ k) rfl hj hb (h f _ hp)
/-! one operation of a drawn region -/
theorem x_n {o : Oper} {σ : St} {K : St → Prop} (hg : o.guard = none) (h : aop P y n o σ K) : oneOp P y n ops o σ K := by
  unfold oneOp
  rw [hg]
  exact h
theorem x_y {o : Oper} {K : St → Prop} {j qq : Nat} {want : Bool} (hg : o.guard = some (j, want)) (hj : (ops[j]?).bind (·.dst) = some qq) (hb : look t qq = some (.d (.b want))) (hd : dstB n o.dst = true) (h : aop P y n o ⟨t, L, F⟩ K) : oneOp P y n ops o ⟨t, L, F⟩ K := by
  unfold oneOp
  rw [hg]
  simp only [hj, lk (L := L) (F := F) hb, if_true]
  exact ⟨hd, h⟩
theorem x_s {K : St → Prop} {j qq : Nat} {want : Bool} (hj : (ops[j]?).bind (·.dst) = some qq) (hb : look t qq = some (.d (.b (!want))) ∨ look t qq = some .un) (hd : dstB n (some i) = true) (h : K ⟨(i, .un) :: t, L, F⟩) : oneOp P y n ops ⟨some i, op, ty, pos, af, some (j, want)⟩ ⟨t, L, F⟩ K := by
  unfold oneOp
  rcases hb with hb | hb
  · simp only [hj, lk (L := L) (F := F) hb]
    refine ⟨hd, ?_⟩
    rw [if_neg (by cases want <;> simp)]
    exact h
  · simp only [hj, lk (L := L) (F := F) hb]
    exact ⟨hd, h⟩
theorem Sd.dup {l : Array Bool} {f : Nat} {qq : Nat} {x : T} {Q : Exit → St → Prop} (h : look t qq = some x) (H : Sd P n ops ds f l Q ⟨(qq, x) :: t, L, F⟩) : Sd P n ops ds f l Q ⟨t, L, F⟩ := fun E hE a w I β R w0 I0 B e hB => by
  obtain ⟨R2⟩ : Nonempty (Rel E ⟨(qq, x) :: t, L, F⟩ a w I β) := by
    refine ⟨fun i z hz => ?_, R.tz, R.df, R.ob, R.ext, R.fr, R.kp, R.lo, R.fo, R.nf⟩
    simp only [look] at hz
    split at hz
    · rename_i hi
      cases hz
      rw [hi]
      exact R.tm qq x h
    · exact R.tm i z hz
  exact H E hE a w I β R2 w0 I0 B e hB
/-- A guard is not known yet. -/
theorem p_s {j qq : Nat} {b : Bool} {Q : Exit → St → Prop} (hb : look t qq = some (.d (.b b))) (h1 : b = true → Sp P n ops ds p Q ⟨(qq, .d (.b true)) :: t, L, F⟩) (h2 : b = false → Sp P n ops ds p Q ⟨(qq, .d (.b false)) :: t, L, F⟩) : Sp P n ops ds p Q ⟨t, L, F⟩ := fun f l hp => by
  cases b with
  | true => exact (h1 rfl f l hp).dup hb
  | false => exact (h2 rfl f l hp).dup hb
theorem p_sg {j qq : Nat} {want b : Bool} {dst : Option Tmp} {Q : Exit → St → Prop} {oi : Oper} (hi : ops[i]? = some oi) (ho : oi = ⟨dst, op, ty, pos, af, some (j, want)⟩) (hj : (ops[j]?).bind (·.dst) = some qq) (hb : look t qq = some (.d (.b b))) (h1 : b = true → Sp P n ops ds (.tk i p) Q ⟨(qq, .d (.b true)) :: t, L, F⟩) (h2 : b = false → Sp P n ops ds (.tk i p) Q ⟨(qq, .d (.b false)) :: t, L, F⟩) : Sp P n ops ds (.tk i p) Q ⟨t, L, F⟩ := p_s (j := j) hb h1 h2
theorem p_so {j qq : Nat} {want b : Bool} {dst : Option Tmp} {Q : Exit → St → Prop} {oi : Oper} (hi : ops[i]? = some oi) (ho : oi = ⟨dst, op, ty, pos, af, some (j, want)⟩) (hj : (ops[j]?).bind (·.dst) = some qq) (hb : look t qq = some (.d (.b b))) (h1 : b = true → Sp P n ops ds (.one i p) Q ⟨(qq, .d (.b true)) :: t, L, F⟩) (h2 : b = false → Sp P n ops ds (.one i p) Q ⟨(qq, .d (.b false)) :: t, L, F⟩) : Sp P n ops ds (.one i p) Q ⟨t, L, F⟩ := p_s (j := j) hb h1 h2
theorem p_one (hY : TyOk P y) {o : Oper} {σ : St} (hi : ops[i]? = some o) (h : oneOp P y n ops o σ (Sp P n ops ds p Q)) : Sp P n ops ds (.one i p) Q σ := fun f l hp => by
  cases f with
  | zero => simp [planB] at hp
  | succ f =>
    simp only [planB, hi, Bool.and_eq_true, beq_iff_eq] at hp
    exact d_one hY hp.1.1 hi hp.1.2 (fun τ h => h f _ hp.2) h
end
end Go.Proofs.Ytmclamindmnigaa.Ax

namespace Go.Proofs.Ytmclamindmnigaa.Ax
open Go.RowKit
variable {P : Program} {y : Ty} {n : Nat}

/-! ### Own objects lent to a call -/
section lent
variable {E : En} {σ : St} {a : Act} {w : World} {I : Im} {β : Be}

def posOf : List Nat → Nat → Option Nat
  | [], _ => none
  | k :: r, i => if k = i then some 0 else (posOf r i).map (· + 1)
def nodB : List Nat → Bool
  | [] => true
  | k :: r => (posOf r k).isNone && nodB r
theorem posOf_get : ∀ {ks : List Nat} {i j : Nat}, posOf ks i = some j → ks[j]? = some i
  | [], _, _, h => by simp [posOf] at h
  | k :: r, i, j, h => by
    simp only [posOf] at h
    split at h
    · rename_i hk; cases h; subst hk; rfl
    · cases hq : posOf r i with
      | none => rw [hq] at h; cases h
      | some m => rw [hq] at h; cases h; simpa using posOf_get hq
theorem posOf_none : ∀ {ks : List Nat} {i : Nat}, posOf ks i = none → ∀ j : Nat, ks[j]? ≠ some i
  | [], _, _, _ => by simp
  | k :: r, i, h, j => by
    simp only [posOf] at h
    split at h
    · cases h
    · rename_i hk
      cases j with
      | zero => simpa using hk
      | succ j =>
        cases hq : posOf r i with
        | none => simpa using posOf_none hq j
        | some m => rw [hq] at h; cases h
theorem posOf_of : ∀ {ks : List Nat} {i j : Nat}, nodB ks = true → ks[j]? = some i → posOf ks i = some j
  | [], _, _, _, h => by simp at h
  | k :: r, i, j, hn, h => by
    simp only [nodB, Bool.and_eq_true, Option.isNone_iff_eq_none] at hn
    cases j with
    | zero => simp at h; subst h; simp [posOf]
    | succ j =>
      have h' : r[j]? = some i := by simpa using h
      have := posOf_of hn.2 h'
      have hne : k ≠ i := fun e => posOf_none hn.1 j (by rw [e]; exact h')
      simp [posOf, hne, this]

def lay (g : Ob → Ob) : List Nat → List Ob → List (Nat × Ob)
  | i :: r, o :: os => (i, g o) :: lay g r os
  | _, _ => []
theorem look_lay {g : Ob → Ob} : ∀ {ks : List Nat} {Fo : List Ob} {L : List (Nat × Ob)}, Fo.length = ks.length → ∀ i, look (lay g ks Fo ++ L) i = match posOf ks i with
    | some j => (Fo[j]?).map g
    | none => look L i
  | [], [], L, _, i => rfl
  | k :: r, o :: os, L, h, i => by
    simp only [lay, List.cons_append, look, posOf]
    by_cases hk : k = i
    · subst hk; simp
    · rw [if_neg (Ne.symm hk), if_neg hk, look_lay (by simpa using h) i]
      cases posOf r i <;> simp
  | [], _ :: _, _, h, _ => by simp at h
  | _ :: _, [], _, h, _ => by simp at h

def Be.back (β β' : Be) (ks : List Nat) : Be where
  blk := fun k => match k with
    | .l i => match posOf ks i with
      | some j => β'.blk (.f j)
      | none => β.blk (.l i)
    | .f j => β.blk (.f j)
  row := fun k => match k with
    | .l i => match posOf ks i with
      | some j => β'.row (.f j)
      | none => β.row (.l i)
    | .f j => β.row (.f j)

def inK (m : Nat) : Key → Bool
  | .f j => decide (j < m)
  | .l _ => false

theorem kbk_at {ks : List Nat} {i j : Nat} (h : ks[j]? = some i) : kbk ks (.f j) = .l i := by simp [kbk, h]

theorem Rel.lend (R : Rel E σ a w I β) {ks : List Nat} {F' : List Ob} (hnd : nodB ks = true) (hl : F'.length = ks.length)
    (hob : ∀ (j i : Nat) (o : Ob), ks[j]? = some i → F'[j]? = some o → look σ.L i = some (obk ks o)) (hnf : ∀ o ∈ F', ∀ k ∈ o.keys, fKey k) : Fin w I (β.bk ks) F' := by
  have at_ : ∀ (j : Nat) (o : Ob), F'[j]? = some o → ∃ i, ks[j]? = some i ∧ look σ.L i = some (obk ks o) := fun j o h => by
    have hj : j < ks.length := by rw [← hl]; exact (List.getElem?_eq_some_iff.1 h).1
    exact ⟨ks[j], List.getElem?_eq_getElem hj, hob j _ o (List.getElem?_eq_getElem hj) h⟩
  refine ⟨⟨fun k o h => ?_, fun k k' o o' b h h' hb hb' => ?_, R.ob.new⟩, fun j o h => hnf o (List.mem_of_getElem? h)⟩
  · cases k with
    | l i => simp [fobj] at h
    | f j =>
      obtain ⟨i, h1, h2⟩ := at_ j o h
      rw [relO_bk, kbk_at h1]
      exact R.ob.rel (.l i) _ h2
  · cases k with
    | l i => simp [fobj] at h
    | f j =>
      cases k' with
      | l i => simp [fobj] at h'
      | f j' =>
        obtain ⟨i, h1, h2⟩ := at_ j o h
        obtain ⟨i', h1', h2'⟩ := at_ j' o' h'
        rw [own_bk, kbk_at h1] at hb
        rw [own_bk, kbk_at h1'] at hb'
        have := R.ob.sep (.l i) (.l i') _ _ b h2 h2' hb hb'
        cases this
        have e1 := posOf_of hnd h1
        have e2 := posOf_of hnd h1'
        rw [e1] at e2
        cases e2
        rfl

theorem Rel.lend_lo (R : Rel E σ a w I β) {ks : List Nat} {F' : List Ob} (hl : F'.length = ks.length) (hob : ∀ (j i : Nat) (o : Ob), ks[j]? = some i → F'[j]? = some o → look σ.L i = some (obk ks o)) (b : Nat) (h : XF (β.bk ks) F' b) : E.w.heap.size ≤ b := by
  obtain ⟨j, o, h1, h2⟩ := h
  have hj : j < ks.length := by rw [← hl]; exact (List.getElem?_eq_some_iff.1 h1).1
  have h3 := List.getElem?_eq_getElem hj
  rw [own_bk, kbk_at h3] at h2
  exact R.lo _ _ b (hob j _ o h3 h1) h2
theorem nodB_left : ∀ {ks nw : List Nat}, nodB (ks ++ nw) = true → nodB ks = true
  | [], _, _ => rfl
  | k :: r, nw, h => by
    simp only [List.cons_append, nodB, Bool.and_eq_true, Option.isNone_iff_eq_none] at h ⊢
    refine ⟨?_, nodB_left h.2⟩
    cases hq : posOf r k with
    | none => rfl
    | some j =>
      have := posOf_get hq
      have hlt := (List.getElem?_eq_some_iff.1 this).1
      exact absurd (by rw [List.getElem?_append_left hlt]; exact this) (posOf_none h.1 j)

theorem Rel.lent (R : Rel E σ a w I β) {ks nw : List Nat} {F' Fo : List Ob} {S : T → List Ob → Prop} {v : Value} {w' : World} {r : T} {I' : Im} {β' : Be}
    (hnd : nodB (ks ++ nw) = true) (hF : σ.F = []) (hl : F'.length = ks.length) (hob : ∀ (j i : Nat) (o : Ob), ks[j]? = some i → F'[j]? = some o → look σ.L i = some (obk ks o)) (hnw : ∀ i ∈ nw, σ.Clean (.l i))
    (p : Post S w I (β.bk ks) F' v w' r Fo I' β') (hlo : Fo.length = (ks ++ nw).length) (hfo : ∀ o ∈ Fo, ∀ k ∈ o.keys, inK (ks ++ nw).length k = true) (hr : ∀ k ∈ r.keys, inK (ks ++ nw).length k = true) :
    Rel E ⟨σ.t, lay (obk (ks ++ nw)) (ks ++ nw) Fo ++ σ.L, []⟩ a w' I' (β.back β' (ks ++ nw)) ∧ RelT w' I' (β.back β' (ks ++ nw)) (tbk (ks ++ nw) r) v := by
  generalize hK : ks ++ nw = K at *
  have hKl : ∀ (j i : Nat), ks[j]? = some i → K[j]? = some i := fun j i h => by
    rw [← hK, List.getElem?_append_left (List.getElem?_eq_some_iff.1 h).1]; exact h
  have hnks : nodB ks = true := nodB_left (by rw [hK]; exact hnd)
  have agree : ∀ k, inK K.length k = true → ((β.back β' K).bk K).blk k = β'.blk k ∧ ((β.back β' K).bk K).row k = β'.row k := fun k hk => by
    cases k with
    | l i => cases hk
    | f j =>
      have hj : j < K.length := of_decide_eq_true hk
      have h1 := List.getElem?_eq_getElem hj
      have h2 := posOf_of hnd h1
      simp only [Be.bk, kbk_at h1, Be.back, h2, and_self]
  have hat : ∀ (j : Nat) (o : Ob), Fo[j]? = some o → ∃ i, K[j]? = some i ∧ posOf K i = some j := fun j o h => by
    have hj : j < K.length := by rw [← hlo]; exact (List.getElem?_eq_some_iff.1 h).1
    have h1 := List.getElem?_eq_getElem hj
    exact ⟨_, h1, posOf_of hnd h1⟩
  -- what was lent, behind the call
  have relf : ∀ (j i : Nat) (o : Ob), Fo[j]? = some o → K[j]? = some i → RelO w' I' (β.back β' K) (.l i) (obk K o) ∧ own (β.back β' K) (.l i) (obk K o) = own β' (.f j) o := fun j i o h hi => by
    have hj : j < K.length := (List.getElem?_eq_some_iff.1 hi).1
    have hr := p.fin.ob.rel (.f j) o h
    have h2 := RelO.keep (k := .f j) (β := β') (β' := (β.back β' K).bk K) (Ext.refl w' I') (fun k' hk' => by
      have hin : inK K.length k' = true := by
        rcases hk' with rfl | hk'
        · simpa [inK] using hj
        · exact hfo o (List.mem_of_getElem? h) k' hk'
      obtain ⟨h3, h4⟩ := agree k' hin
      exact ⟨h3, fun n v hv => by rw [h4]; exact hv⟩) (fun n hn => by rw [(agree (.f j) (by simpa [inK] using hj)).2]; exact hn) (fun _ _ => ⟨rfl, rfl⟩) hr
    rw [relO_bk, own_bk, kbk_at hi] at h2
    exact h2
  have keep : ∀ k : Key, (∀ i ∈ nw, k ≠ .l i) → (β.back β' K).blk k = β.blk k ∧ ∀ n v, β.row k n = some v → (β.back β' K).row k n = some v := fun k hk => by
    cases k with
    | f j => exact ⟨rfl, fun _ _ h => h⟩
    | l i =>
      simp only [Be.back]
      cases hq : posOf K i with
      | none => exact ⟨rfl, fun _ _ h => h⟩
      | some j =>
        have h1 := posOf_get hq
        have hks : ks[j]? = some i := by
          rw [← hK] at h1
          rcases Nat.lt_or_ge j ks.length with hj | hj
          · rwa [List.getElem?_append_left hj] at h1
          · rw [List.getElem?_append_right hj] at h1
            exact absurd rfl (hk i (List.mem_of_getElem? h1))
        have h2 := p.kp (.f j) trivial
        simp only [Be.bk, kbk_at hks] at h2
        exact h2
  have keepS : ∀ l : List Key, (∀ i ∈ nw, Key.l i ∉ l) → Keep (· ∈ l) β (β.back β' K) := fun l h k hk => keep k (fun i hi e => h i hi (e ▸ hk))
  have xf : ∀ b, XF (β.bk ks) F' b → ∃ (j i : Nat) (o : Ob), ks[j]? = some i ∧ look σ.L i = some o ∧ own β (.l i) o = some b := by
    rintro b ⟨j, o, h1, h2⟩
    have hj : j < ks.length := by rw [← hl]; exact (List.getElem?_eq_some_iff.1 h1).1
    have h3 := List.getElem?_eq_getElem hj
    rw [own_bk, kbk_at h3] at h2
    exact ⟨j, _, _, h3, hob j _ o h3 h1, h2⟩
  -- what was not lent
  have old : ∀ i o, posOf K i = none → look σ.L i = some o → (∀ b, own β (.l i) o = some b → ¬ XF (β.bk ks) F' b) ∧ RelO w' I' (β.back β' K) (.l i) o ∧ own (β.back β' K) (.l i) o = own β (.l i) o := fun i o hn ho => by
    have notX : ∀ b, own β (.l i) o = some b → ¬ XF (β.bk ks) F' b := fun b hb hx => by
      obtain ⟨j, i', o', h1, h2, h3⟩ := xf b hx
      have := R.ob.sep (.l i) (.l i') o o' b ho h2 hb h3
      cases this
      exact posOf_none hn j (hKl j i h1)
    have hr := R.ob.rel (.l i) o ho
    refine ⟨notX, RelO.keep p.ext (fun k' hk' => ?_) (fun m hm => ?_) (fun b hb => p.fr.block b (own_lt hr hb) (notX b hb)) hr⟩
    · refine keep k' (fun i2 hi2 e => ?_)
      have hc := (hnw i2 hi2).2 (.l i) o ho
      rcases hk' with rfl | hk'
      · exact hc.2 e
      · exact hc.1 (e ▸ hk')
    · simp only [Be.back, hn]; exact hm
  have lk : ∀ i, look (lay (obk K) K Fo ++ σ.L) i = match posOf K i with
    | some j => (Fo[j]?).map (obk K)
    | none => look σ.L i := fun i => look_lay hlo i
  have split : ∀ i o, look (lay (obk K) K Fo ++ σ.L) i = some o → (∃ j o', posOf K i = some j ∧ Fo[j]? = some o' ∧ o = obk K o') ∨ (posOf K i = none ∧ look σ.L i = some o) := fun i o h => by
    rw [lk i] at h
    split at h
    · rename_i j hj
      cases hq : Fo[j]? with
      | none => rw [hq] at h; cases h
      | some o' => rw [hq] at h; cases h; exact .inl ⟨j, o', hj, hq, rfl⟩
    · rename_i hj; exact .inr ⟨hj, h⟩
  have noF : ∀ (j : Nat) (o : Ob), ([] : List Ob)[j]? ≠ some o := fun j o => by simp
  refine ⟨⟨fun i x hx => RelT.mono p.ext (keepS _ fun i2 hi2 => (hnw i2 hi2).1 i x hx) (R.tm i x hx), R.tz, R.df, ⟨fun k o hk => ?_, fun k k' o o' b h h' hb hb' => ?_, p.fin.ob.new⟩, R.ext.trans p.ext, R.fr.trans p.fr ?_, R.kp.trans (fun k hk => ?_), fun i o b h hb => ?_, fun j o b h => absurd h (noF j o), fun j o h => absurd h (noF j o)⟩, ?_⟩
  · cases k with
    | f j => exact absurd hk (noF j o)
    | l i =>
      rcases split i o hk with ⟨j, o', h1, h2, rfl⟩ | ⟨h1, h2⟩
      · exact (relf j i o' h2 (posOf_get h1)).1
      · exact (old i o h1 h2).2.1
  · cases k with
    | f j => exact absurd h (noF j o)
    | l i =>
      cases k' with
      | f j => exact absurd h' (noF j o')
      | l i' =>
        rcases split i o h with ⟨j, q, h1, h2, rfl⟩ | ⟨h1, h2⟩ <;> rcases split i' o' h' with ⟨j', q', h1', h2', rfl⟩ | ⟨h1', h2'⟩
        · rw [(relf j i q h2 (posOf_get h1)).2] at hb
          rw [(relf j' i' q' h2' (posOf_get h1')).2] at hb'
          have := p.fin.ob.sep (.f j) (.f j') q q' b h2 h2' hb hb'
          cases this
          have e1 := posOf_get h1
          rw [posOf_get h1'] at e1
          cases e1
          rfl
        · rw [(relf j i q h2 (posOf_get h1)).2] at hb
          obtain ⟨a1, a2, a3⟩ := old i' o' h1' h2'
          rw [a3] at hb'
          have h3 := own_lt (R.ob.rel (.l i') o' h2') hb'
          rcases p.fo j q b h2 hb with h4 | h4
          · omega
          · exact absurd h4 (a1 b hb')
        · rw [(relf j' i' q' h2' (posOf_get h1')).2] at hb'
          obtain ⟨a1, a2, a3⟩ := old i o h1 h2
          rw [a3] at hb
          have h3 := own_lt (R.ob.rel (.l i) o h2) hb
          rcases p.fo j' q' b h2' hb' with h4 | h4
          · omega
          · exact absurd h4 (a1 b hb)
        · rw [(old i o h1 h2).2.2] at hb
          rw [(old i' o' h1' h2').2.2] at hb'
          exact R.ob.sep _ _ _ _ b h2 h2' hb hb'
  · intro b hb _ hx
    obtain ⟨j, i, o, h1, h2, h3⟩ := xf b hx
    have := R.lo i o b h2 h3
    omega
  · cases k with
    | l i => exact hk.elim
    | f j => exact ⟨rfl, fun _ _ h => h⟩
  · rcases split i o h with ⟨j, q, h1, h2, rfl⟩ | ⟨h1, h2⟩
    · rw [(relf j i q h2 (posOf_get h1)).2] at hb
      rcases p.fo j q b h2 hb with h4 | h4
      · exact Nat.le_trans R.fr.size h4
      · obtain ⟨j2, i2, o2, h5, h6, h7⟩ := xf b h4
        exact R.lo i2 o2 b h6 h7
    · rw [(old i o h1 h2).2.2] at hb
      exact R.lo i o b h2 hb
  · refine relT_bk.1 (RelT.mono (Ext.refl w' I') (fun k hk => ?_) p.v)
    obtain ⟨h3, h4⟩ := agree k (hr k hk)
    exact ⟨h3, fun n v hv => by rw [h4]; exact hv⟩
end lent
end Go.Proofs.Ytmclamindmnigaa.Ax

namespace Go.Proofs.Ytmclamindmnigaa.Ax
open Go.RowKit
variable {P : Program} {y : Ty} {n : Nat}

section
variable {Q : Exit → St → Prop} {ops : Array Oper} {r : List Oper} {t : List (Nat × T)} {L : List (Nat × Ob)} {F : List Ob} {i : Nat} {ty : TypeId} {pos : String} {af : Array Edge} {dst : Option Tmp}

/-- An operation told by what it gives. -/
theorem o_g {op : Op} {x : T} {σ : St} (hi : dstB n (some i) = true)
    (h0 : ∀ E a w I β, Rel E σ a w I β → ∃ v, (execOp a.eval ⟨some i, op, ty, pos, af, none⟩).run P w = .ok (.value v) w ∧ RelT w I β x v) (h : So P n ops r Q (σ.put (some i) x)) :
    So P n ops (⟨some i, op, ty, pos, af, none⟩ :: r) Q σ := fun E hE a w I β R => by
  subst hE
  obtain ⟨v, hv, hx⟩ := h0 E a w I β R
  unfold wpList
  rw [if_pos (by simp [Region.wanted])]
  refine .inl ?_
  unfold Oper.wp
  rw [hv]
  exact h E rfl _ w I β (R.put (dst := some i) (fun j hj => by cases hj; simpa [dstB] using hi) hx)

/-- A call told by its effect on the state. -/
theorem o_sem {f : FuncId} {args : List Operand} {tys : Array TypeId} {σ : St} (hp : Plain P f)
    (h : ∀ E : En, E.n = n → ∀ a w I β, Rel E σ a w I β → Calls P f (args.map a.eval).toArray w fun e w' => ∃ v I' β' σ', e = .returned v ∧ Rel E σ' (a.put dst v) w' I' β' ∧ So P n ops r Q σ') :
    So P n ops (⟨dst, .call ⟨.value (.func f), args.toArray, tys⟩, ty, pos, af, none⟩ :: r) Q σ := fun E hE a w I β R => by
  subst hE
  have hc := h E rfl a w I β R
  have hf : a.eval (.func f) = .func (.func f) #[] ([] : List Value).toArray := rfl
  have hrun := run_enter (P := P) (a := a) (w := w) (o := ⟨dst, .call ⟨.value (.func f), args.toArray, tys⟩, ty, pos, af, none⟩) rfl rfl hf hp
  simp only [List.append_nil, List.toList_toArray] at hrun
  unfold wpList
  rw [if_pos (by simp [Region.wanted])]
  refine .inl ?_
  unfold Oper.wp
  rw [hrun]
  refine hc.mono ?_
  rintro e w' ⟨v, I', β', σ', rfl, R', h'⟩
  exact h' E rfl _ w' I' β' R'

def lentL (ks : List Nat) (L : List (Nat × Ob)) : List Nat → List Ob → Prop
  | [], [] => True
  | i :: r, o :: os => look L i = some (obk ks o) ∧ lentL ks L r os
  | _, _ => False
theorem lentL_ok {ks : List Nat} {L : List (Nat × Ob)} : ∀ {is : List Nat} {os : List Ob}, lentL ks L is os → os.length = is.length ∧ ∀ (j i : Nat) (o : Ob), is[j]? = some i → os[j]? = some o → look L i = some (obk ks o)
  | [], [], _ => ⟨rfl, fun j i o h => by simp at h⟩
  | i :: r, o :: os, h => by
    obtain ⟨h1, h2⟩ := lentL_ok h.2
    refine ⟨by simp [h1], fun j i' o' hi ho => ?_⟩
    cases j with
    | zero => simp at hi ho; subst hi; subst ho; exact h.1
    | succ j => exact h2 j i' o' (by simpa using hi) (by simpa using ho)
  | [], _ :: _, h => h.elim
  | _ :: _, [], h => h.elim
def Ob.noL : Ob → Bool
  | .var x => x.noL
  | .bld _ kr _ => isF kr
  | _ => true
theorem Ob.noL_ok {o : Ob} (h : o.noL = true) : ∀ k ∈ o.keys, fKey k := by
  cases o with
  | var x => exact T.noL_ok h
  | bld ty kr n =>
    intro k hk
    simp only [Ob.keys, List.mem_singleton] at hk
    subst hk
    cases k <;> simp_all [Ob.noL, isF, fKey]
  | _ => simp [Ob.keys]

/-- A call that is lent own objects; it may hand back new ones too. -/
theorem o_lend {f : FuncId} {args : List Operand} {tys : Array TypeId} {ags' : List T} (ks nw : List Nat) {F' : List Ob} {S : T → List Ob → Prop} (hc : AC P f ags' F' S) (ha : Fzs t L [] args (ags'.map (tbk ks))) (hob : lentL ks L ks F')
    (hb : (nodB (ks ++ nw) && noLs ags' && F'.all Ob.noL && nw.all (fun i => (⟨t, L, []⟩ : St).cleanB i) && dstB n dst) = true)
    (h : ∀ v Fo, S v Fo → (Fo.length == (ks ++ nw).length && Fo.all (fun o => o.keys.all (inK (ks ++ nw).length)) && v.keys.all (inK (ks ++ nw).length)) = true ∧ So P n ops r Q ((⟨t, lay (obk (ks ++ nw)) (ks ++ nw) Fo ++ L, []⟩ : St).put dst (tbk (ks ++ nw) v))) :
    So P n ops (⟨dst, .call ⟨.value (.func f), args.toArray, tys⟩, ty, pos, af, none⟩ :: r) Q ⟨t, L, []⟩ := by
  simp only [Bool.and_eq_true, List.all_eq_true] at hb
  obtain ⟨⟨⟨⟨b1, b2⟩, b3⟩, b4⟩, b5⟩ := hb
  obtain ⟨hl, hob'⟩ := lentL_ok hob
  refine o_sem hc.1 fun E hE a w I β R => ?_
  subst hE
  have hv := R.evz args
  rw [ha.ok] at hv
  have hv' : All2 (RelT w I (β.bk ks)) ags' (args.map a.eval) := by
    clear ha hc
    generalize args.map a.eval = vs at hv
    induction ags' generalizing vs with
    | nil => cases vs with
      | nil => trivial
      | cons => exact hv.elim
    | cons x r ih => cases vs with
      | nil => exact hv.elim
      | cons v vs =>
        simp only [noLs, Bool.and_eq_true] at b2
        exact ⟨relT_bk.2 hv.1, ih b2.2 vs hv.2⟩
  have hfin := R.lend (nodB_left b1) hl hob' (fun o ho => Ob.noL_ok (b3 o ho))
  refine (hc.2 w I (β.bk ks) _ (R.gd fun b hx => .inl (R.lend_lo hl hob' b hx)) hfin (noLs_ok b2) hv').mono ?_
  rintro e w' ⟨v, r', Fo, I', β', rfl, p⟩
  obtain ⟨h1, h2⟩ := h r' Fo p.pr
  simp only [Bool.and_eq_true, List.all_eq_true, beq_iff_eq] at h1
  obtain ⟨⟨c1, c2⟩, c3⟩ := h1
  obtain ⟨R2, hv2⟩ := R.lent b1 rfl hl hob' (fun i hi => R.clean (b4 i hi)) p c1 c2 c3
  exact ⟨_, I', _, _, rfl, R2.put (fun j hj => by rw [hj] at b5; simpa [dstB] using b5) hv2, h2⟩

/-- Nothing but the world is left. -/
theorem Rel.bare {E : En} {σ : St} {a : Act} {w : World} {I : Im} {β : Be} (R : Rel E σ a w I β) {g : Nat} {o : Ob} (hg : look σ.L g = some o) {w' : World} {I' : Im} (h : w.grownBy w' (own β (.l g) o)) (hI : ∀ b, own β (.l g) o ≠ some b → I' b = I b) : Rel E ⟨[], [], []⟩ a w' I' β := by
  have hob : ∀ b, own β (.l g) o = some b → E.w.heap.size ≤ b ∧ b < w.heap.size := fun b hb => ⟨R.lo g o b hg hb, own_lt (R.ob.rel (.l g) o hg) hb⟩
  have noo : ∀ k o, (⟨[], [], []⟩ : St).obj k ≠ some o := fun k o => by cases k <;> simp [St.obj, look]
  have hne : ∀ b, b < E.w.heap.size → own β (.l g) o ≠ some b := fun b hb he => by have := (hob b he).1; omega
  have hblk : ∀ b, b < E.w.heap.size → w'.heap[b]? = w.heap[b]? := fun b hb => h.block b (Nat.lt_of_lt_of_le hb R.fr.size) (fun e => hne b hb e.symm)
  refine ⟨fun i x hx => by simp [look] at hx, R.tz, R.df, ⟨fun k o hk => absurd hk (noo k o), fun k k' o o' b hk => absurd hk (noo k o), fun b hb => ?_⟩, ⟨Nat.le_trans R.ext.size h.size, fun b => ?_, fun b o ho => ?_⟩, ⟨h.os.trans R.fr.os, h.tape.trans R.fr.tape, h.output.trans R.fr.output, Nat.le_trans R.fr.size h.size, fun b hb hx => ?_⟩, R.kp, fun n o b hq => by simp [look] at hq, fun n o b hq => by simp at hq, fun n o hq => by simp at hq⟩
  · rw [hI b (fun e => by have := (hob b e).2; have := h.size; omega)]
    exact R.ob.new b (Nat.le_trans h.size hb)
  · by_cases hb : b < E.w.heap.size
    · rw [hI b (hne b hb)]; exact R.ext.im b
    · rw [E.en b (by omega)]; exact Nat.zero_le _
  · by_cases hb : b < E.w.heap.size
    · exact (World.cell?_of_block (w := w) (a := ⟨b, o, none⟩) (hblk b hb)).trans (R.ext.cell b o ho)
    · rw [E.en b (by omega)] at ho; cases ho
  · obtain ⟨h1, h2⟩ := R.fr.block b hb hx
    exact ⟨(hblk b hb).trans h1, (hI b (hne b hb)).trans h2⟩

/-- One's own row is turned into data that is all that is left. -/
def Turned (w : World) (v : Value) (w' : World) (v' : Value) (xs : List D) (us : List Value) : Prop :=
  w.grownBy w' v.ownBlock ∧ us.length = sizes xs ∧ ((v' = .slice none 0 0 ∧ xs = []) ∨ ∃ b c, v.ownBlock = some b ∧ v' = .slice (some ⟨b, 0, none⟩) xs.length c ∧ xs.length ≤ c ∧ ∀ (j : Nat) (u : Value), us[j]? = some u → w'.cell? ⟨b, j, none⟩ = some u)

theorem o_last {f : FuncId} {tys : Array TypeId} {x : Operand} {g m : Nat} {e : TypeId} {sz sz' : Nat} {xs ys : List D} (us' : List Value) (hp : Plain P f) (hx : evq t x = some (.rw (.l g) m)) (hg : look L g = some (.row e sz xs)) (hm : m = xs.length) (hd : dstB n (some i) = true)
    (hys : ∀ w I, RepL w I ys us') (hsz : ∀ x ∈ ys, x.size = sz')
    (hc : ∀ w I v us, w.ownsRow 0 e sz v xs.length us → RepL w I xs us → Calls P f #[v] w fun e w' => ∃ v', e = .returned v' ∧ Turned w v w' v' ys us')
    (h : So P n ops r Q ⟨[(i, .d (.sl ys))], [], []⟩) (hX : F = []) :
    So P n ops (⟨some i, .call ⟨.value (.func f), #[x], tys⟩, ty, pos, af, none⟩ :: r) Q ⟨t, L, F⟩ := by
  subst hX
  refine o_sem (args := [x]) hp fun E hE a w I β R => ?_
  subst hE
  have hxv := R.ev x
  rw [evq_ok hx] at hxv
  simp only [RelT, hm] at hxv
  obtain ⟨h0, v, us, g1, g2, g3, g4, g5, g6⟩ := R.ob.rel (.l g) _ hg
  rw [hxv] at g1
  cases g1
  refine (hc w I _ us g2 g3).mono ?_
  rintro e' w' ⟨v', rfl, hgr, hlen, hor⟩
  have hown : own β (.l g) (.row e sz xs) = (a.eval x).ownBlock := by simp only [own, hxv, Option.bind_some]
  have R2 := R.bare hg (w' := w') (I' := Ib I (a.eval x) us'.length) (by rw [hown]; exact hgr) (fun b hb => by
    rw [hown] at hb
    unfold Ib
    cases hq : (a.eval x).ownBlock with
    | none => rfl
    | some b' => exact upd_ne _ _ (fun e => hb (by rw [hq, e])))
  refine ⟨v', _, β, _, rfl, R2.put (dst := some i) (fun j hj => by cases hj; simpa [dstB] using hd) (x := .d (.sl ys)) (repD_of rfl ?_), h⟩
  simp only [RepC]
  rcases hor with ⟨rfl, rfl⟩ | ⟨b, c, hb, rfl, hle, hcell⟩
  · exact ⟨none, 0, us', sz', rfl, by simp, hys _ _, hsz, .inl rfl⟩
  · refine ⟨_, c, us', sz', rfl, hle, hys _ _, hsz, .inr ⟨_, rfl, rfl, fun j u hj => ⟨by simpa using hcell j u hj, ?_⟩⟩⟩
    have hlt := (List.getElem?_eq_some_iff.1 hj).1
    have : Ib I (a.eval x) us'.length b = us'.length := by unfold Ib; rw [hb]; exact upd_eq _ _ _
    simp only
    omega

/-- A variable that is nil gets a row of its own, nil yet. -/
theorem Wk.ghost {g i : Nat} (e : TypeId) {sz : Nat} (hL : look L i = some (.var .nl)) (hg : (⟨t, L, F⟩ : St).cleanB g = true) (h0 : 0 < sz) : Wk n ⟨t, L, F⟩ ⟨t, (i, .var (.rw (.l g) 0)) :: (g, .row e sz []) :: L, F⟩ := fun E _ a w I β R => by
  have hc := R.clean hg
  have R1 := R.ghost hc e h0
  have hne : i ≠ g := fun e => (hc.2 (.l i) _ hL).2 (by rw [e])
  have hob : ((⟨t, L, F⟩ : St).setO (.l g) (.row e sz [])).obj (.l i) = some (.var .nl) := by
    simp only [St.setO, St.obj, look_cons, if_neg hne]; exact hL
  obtain ⟨ty, us, h1, ⟨v, h2, h3, h4⟩, h5⟩ := R1.ob.rel (.l i) _ hob
  refine ⟨_, R1.step (k := .l i) (o' := .var (.rw (.l g) 0)) (Ext.refl w I) (Fr.refl w I _) (fun _ _ => ⟨rfl, rfl⟩) (.inr ⟨Keep.refl _ _, _, hob⟩) ⟨ty, us, h1, ⟨v, h2, ?_, h4⟩, h5⟩ (fun b hb => .inl ⟨_, hob, hb⟩) (fun h => h.elim) R1.ob.new⟩
  simp only [RelT] at h3 ⊢
  rw [h3, upd_eq]
  rfl

/-- Is a slice nil? -/
theorem o_nil (hY : TyOk P y) {tt e t2 : TypeId} {x : Operand} {xs : List D} (hk : y.ky tt = some (.sl e)) (hx : Fz t L F x (.d (.sl xs))) (hi : dstB n (some i) = true) (h : ∀ b : Bool, (b = true → xs = []) → So P n ops r Q ⟨(i, .d (.b b)) :: t, L, F⟩) :
    So P n ops (⟨some i, .binOp .eql tt x (.const (.slice none 0 0)) t2, ty, pos, af, none⟩ :: r) Q ⟨t, L, F⟩ := fun E hE a w I β R => by
  subst hE
  have hv := R.frz (R.ev x)
  rw [hx.ok] at hv
  obtain ⟨A, c, vs, sz, hA, hle, h1, h2, h3⟩ := repD_sl hv
  have hb : A.isNone = true → xs = [] := fun hn => by
    rcases h3 with h3 | ⟨ad, h3, _⟩
    · exact h3
    · rw [h3] at hn; cases hn
  have hk' : P.underlying tt = some (.slice e) := hY.ky hk
  have hrun : (execOp a.eval ⟨some i, .binOp .eql tt x (.const (.slice none 0 0)) t2, ty, pos, af, none⟩).run P w = .ok (.value (.bool A.isNone)) w := by
    unfold execOp
    have he : a.eval (.const (.slice none 0 0)) = .slice none 0 0 := rfl
    have hg : (eqGuard .eql tt x (.const (.slice none 0 0)) (.slice A xs.length c) (.slice none 0 0)).run P w = .ok () w := by
      unfold eqGuard; split <;> first | rfl | simp_all
    simp only [he, hA, Sem.run_bind, hg, Result.andThen_ok, binOp, run_equal_slice_nil w tt e A _ c hk', Sem.run_pure]
  unfold wpList
  rw [if_pos (by simp [Region.wanted])]
  refine .inl ?_
  unfold Oper.wp
  rw [hrun]
  exact h _ hb E rfl _ w I β (R.put (dst := some i) (fun j hj => by cases hj; simpa [dstB] using hi) (repD_b' _))

/-! ### A function that hands back a new object -/
theorem AN_fn {f : FuncId} {fn : Func} {c : Code} {n q : Nat} {args : List T} {R : T → Ob → Prop} (hf : P.funcs[f]? = some fn) (hb : fn.body = some c) (hn : fn.ntmps = n) (hrs : fn.results = [ResultVar.tmp q].toArray) (hnm : (fn.name == "runtime.NumGoroutine") = false) (hl : (args.length ≤ n) = True)
    (h : Sc P n c (Sk P n (retN q R) []) { t := enumT 0 args, L := [], F := [] }) : AN P f args R :=
  AN_of hf hb hn hrs hnm (by rw [hl]; trivial) h
theorem noPan_retN {q : Nat} {R : T → Ob → Prop} : noPan (retN q R) := fun _ _ h => h
variable {q : Nat} {R : T → Ob → Prop}
theorem r_bw {j m : Nat} {o : Ob} (hx : look t q = some (.rw (.l j) m)) (ho : look L j = some o) (hk : o.keys = []) (h : R (.rw (.f 0) m) o) : retN q R .ret ⟨t, L, F⟩ := by
  simp only [retN, lk (L := L) (F := F) hx, bornV]
  exact ⟨o, ho, hk, h⟩
theorem r_bp {j : Nat} {o : Ob} (hx : look t q = some (.pt (.l j) 0)) (ho : look L j = some o) (hk : o.keys = []) (h : R (.pt (.f 0) 0) o) : retN q R .ret ⟨t, L, F⟩ := by
  simp only [retN, lk (L := L) (F := F) hx, bornV]
  exact ⟨o, ho, hk, h⟩
theorem r_bn (hx : look t q = some .nl) (e : TypeId) {sz : Nat} (h0 : 0 < sz) (h : R (.rw (.f 0) 0) (.row e sz [])) : retN q R .ret ⟨t, L, F⟩ := by
  simp only [retN, lk (L := L) (F := F) hx, bornV]
  exact ⟨e, sz, h0, h⟩
end
end Go.Proofs.Ytmclamindmnigaa.Ax

namespace Go.Proofs.Ytmclamindmnigaa.Ax
open Go.RowKit
variable {P : Program} {y : Ty} {n : Nat}

section
variable {K : St → Prop} {Q : Exit → St → Prop} {ops : Array Oper} {r : List Oper} {t : List (Nat × T)} {L : List (Nat × Ob)} {F : List Ob} {i : Nat} {ty : TypeId} {pos : String} {af : Array Edge} {g : Option (Nat × Bool)}

/-! ### Data that is linked to a row -/
theorem v_dtw {tt : TypeId} {x : Operand} {kk k : Key} {z : D} {m o : Nat} {rr : Yr} (hx : evq t x = some (.pt kk 0)) (hk : obq L F kk = some (.var (.dt z k m o))) (hr : y.Y tt = some rr) (hg : rr.ky.agg = true) (hs : z.size = rr.sz) : pval y ⟨t, L, F⟩ (.load tt x) = some (.dt z k m o) := by
  simp only [pval, evq_ok (L := L) (F := F) hx, pLoad, obq_eq, hk, hr]
  rw [if_pos (by simp [hg, hs])]
theorem v_dtr {tt : TypeId} {x : Operand} {kk k : Key} {z : D} {m o : Nat} {rr : Yr} (hx : evq t x = some (.pt kk o)) (hk : obq L F kk = some (.var (.dt z k m o))) (hr : y.Y tt = some rr) (hg : rr.ky.agg = false) (hs : rr.sz = 1) : pval y ⟨t, L, F⟩ (.load tt x) = some (.rw k m) := by
  simp only [pval, evq_ok (L := L) (F := F) hx, pLoad, obq_eq, hk, hr]
  rw [if_neg (by rw [hg]; simp), if_pos (by simp [hg, hs])]
theorem v_dtf {tt : TypeId} {x : Operand} {kk k : Key} {z z' : D} {m o off : Nat} {rr : Yr} (hx : evq t x = some (.pt kk off)) (hk : obq L F kk = some (.var (.dt z k m o))) (hr : y.Y tt = some rr) (hs : z.sub off rr.sz rr.ky.agg = some z') (h0 : (off != 0 && off != o) = true) : pval y ⟨t, L, F⟩ (.load tt x) = some (.d z') := by
  simp only [Bool.and_eq_true, bne_iff_ne, ne_eq] at h0
  simp only [pval, evq_ok (L := L) (F := F) hx, pLoad, obq_eq, hk, hr]
  rw [if_neg (fun h => h0.1 h.1), if_neg (fun h => h0.2 h.1), hs]
  rfl
theorem v_cv {s d : TypeId} {x : Operand} {X v : T} (hx : evq t x = some X) (hv : pConv y d X = some v) : pval y ⟨t, L, F⟩ (.convert s d x) = some v := by
  simp only [pval, evq_ok (L := L) (F := F) hx, hv]

theorem a_sti {tt : TypeId} {p x : Operand} {rr : Yr} {j off : Nat} {cv c2 : T} {z z' z2 : D} (hr : y.Y tt = some rr) (hp : evq t p = some (.pt (.l j) off)) (hj : look L j = some (.var cv)) (hcv : datV cv = some z) (hx : Fz t L F x (.d z')) (hz : z.set off z' = some z2) (hs : z'.size = rr.sz) (hin : inhT cv ((⟨t, L, F⟩ : St).ev x) off z'.size z2 c2)
    (h : K ⟨t, (j, .var c2) :: L, F⟩) : aop P y n ⟨none, .store tt p x, ty, pos, af, g⟩ ⟨t, L, F⟩ K := by
  have hj' : (⟨t, L, F⟩ : St).obj (.l j) = some (.var cv) := hj
  exact ⟨rfl, rfl, .inr ⟨rr, .l j, off, cv, z, z', z2, c2, hr, evq_ok hp, hj', hcv, hx.ok, hs, hz, hin, fun h => h.elim, h⟩⟩
/-- A store beside the link. -/
theorem a_stk {tt : TypeId} {p x : Operand} {rr : Yr} {j off m o : Nat} {k : Key} {z z' z2 : D} (hr : y.Y tt = some rr) (hp : evq t p = some (.pt (.l j) off)) (hj : look L j = some (.var (.dt z k m o))) (hx : Fz t L F x (.d z')) (hz : z.set off z' = some z2) (hs : z'.size = rr.sz) (hg : z2.isAg = true) (ho : o < off ∨ off + rr.sz ≤ o)
    (h : K ⟨t, (j, .var (.dt z2 k m o)) :: L, F⟩) : aop P y n ⟨none, .store tt p x, ty, pos, af, g⟩ ⟨t, L, F⟩ K :=
  a_sti (c2 := .dt z2 k m o) hr hp hj (z := z) rfl hx hz hs ⟨rfl, hg, .inl ⟨z, rfl, hs ▸ ho⟩⟩ h
/-- The whole is stored, with its link. -/
theorem a_stw {tt : TypeId} {p x : Operand} {rr : Yr} {j m o : Nat} {k : Key} {cv : T} {z z' : D} (hr : y.Y tt = some rr) (hp : evq t p = some (.pt (.l j) 0)) (hj : look L j = some (.var cv)) (hcv : datV cv = some z) (hx : evq t x = some (.dt z' k m o)) (hz : z.set 0 z' = some z') (hs : z'.size = rr.sz) (hg : z'.isAg = true)
    (h : K ⟨t, (j, .var (.dt z' k m o)) :: L, F⟩) : aop P y n ⟨none, .store tt p x, ty, pos, af, g⟩ ⟨t, L, F⟩ K :=
  a_sti (c2 := .dt z' k m o) hr hp hj hcv (.t hx) hz hs ⟨rfl, hg, .inr (.inl ⟨z', o, evq_ok hx, (Nat.zero_add o).symm⟩)⟩ h
/-- A row is stored, and linked. -/
theorem a_str {tt : TypeId} {p x : Operand} {rr : Yr} {j off m : Nat} {k : Key} {cv : T} {z z2 : D} {e : TypeId} {sz : Nat} {xs : List D} (hr : y.Y tt = some rr) (hp : evq t p = some (.pt (.l j) off)) (hj : look L j = some (.var cv)) (hcv : datV cv = some z) (hx : evq t x = some (.rw k m)) (hk : obq L F k = some (.row e sz xs)) (hm : m = xs.length) (hz : z.set off (.sl xs) = some z2) (hs : 1 = rr.sz) (hg : z2.isAg = true)
    (h : K ⟨t, (j, .var (.dt z2 k m off)) :: L, F⟩) : aop P y n ⟨none, .store tt p x, ty, pos, af, g⟩ ⟨t, L, F⟩ K :=
  a_sti (c2 := .dt z2 k m off) hr hp hj hcv (.w hx hk hm) hz hs ⟨rfl, hg, .inr (.inr ⟨evq_ok hx, rfl⟩)⟩ h
/-- The link is forgotten. -/
theorem a_stf {tt : TypeId} {p x : Operand} {rr : Yr} {j off m o : Nat} {k : Key} {z z' z2 : D} (hr : y.Y tt = some rr) (hp : evq t p = some (.pt (.l j) off)) (hj : look L j = some (.var (.dt z k m o))) (hx : Fz t L F x (.d z')) (hz : z.set off z' = some z2) (hs : z'.size = rr.sz)
    (h : K ⟨t, (j, .var (.d z2)) :: L, F⟩) : aop P y n ⟨none, .store tt p x, ty, pos, af, g⟩ ⟨t, L, F⟩ K :=
  a_sti (c2 := .d z2) hr hp hj (z := z) rfl hx hz hs rfl h

/-- A cell of a type's zero value. -/
def zcell (P : Program) (t : TypeId) (off : Nat) : Option Value :=
  match P.info? t with
  | some i => match i.zero with
    | some v => v.cells.toList[off]?
    | none => none
  | none => none
/-- A struct of parts, its slice nil yet: linked to a new row. -/
theorem o_bldn (hY : TyOk P y) {tt : TypeId} {ps : List (Nat × Operand)} {xs : List D} {z2 : D} (gg off : Nat) (e : TypeId) {sz : Nat} {kd : Ky} (hxs : Fds t L F ps xs) (hv : pBuild y tt (List.zipWith (fun p v => (p.1, T.d v)) ps xs) = some (.d z2)) (hz : zcell P tt off = some (.slice none 0 0)) (hk : y.ky tt = some kd)
    (hp : (ps.all fun p => match place kd (fun e => (y.Y e).map (·.sz)) p.1 with
      | some q => decide (off < q.1 ∨ q.1 + q.2 ≤ off)
      | none => true) = true) (hc : ((⟨t, L, F⟩ : St).cleanB gg && decide (0 < sz) && dstB n (some i)) = true)
    (h : So P n ops r Q ⟨(i, .dt z2 (.l gg) 0 off) :: t, (gg, .row e sz []) :: L, F⟩) : So P n ops (⟨some i, .build tt ps.toArray, ty, pos, af, none⟩ :: r) Q ⟨t, L, F⟩ := fun E hE a w I β R => by
  subst hE
  simp only [Bool.and_eq_true, decide_eq_true_eq] at hc
  obtain ⟨⟨c1, c2⟩, c3⟩ := hc
  have hb : pBuild y tt ((ps.toArray).toList.map fun p => (p.1, (⟨t, L, F⟩ : St).frz ((⟨t, L, F⟩ : St).ev p.2))) = some (.d z2) := by
    rw [List.toList_toArray, hxs.bld]; exact hv
  obtain ⟨z', us', it, zv, k, e1, hg, hrun, hrep, hi, hzz, hk2, hkeep⟩ := pBuild_keep hY R (o := ⟨some i, .build tt ps.toArray, ty, pos, af, none⟩) rfl hb
  cases e1
  rw [hk] at hk2
  cases hk2
  have q3 : zv.cells.toList[off]? = some (.slice none 0 0) := by
    unfold zcell at hz
    rw [hi] at hz
    simp only [hzz] at hz
    exact hz
  have hoff : us'[off]? = some (.slice none 0 0) := by
    rw [hkeep off ?_]
    · exact q3
    · intro j hj q hq
      simp only [List.toList_toArray, List.mem_map] at hj
      obtain ⟨p, hp1, rfl⟩ := hj
      have := List.all_eq_true.1 hp p hp1
      rw [hq] at this
      simpa using this
  have R1 := R.ghost (R.clean c1) e c2
  unfold wpList
  rw [if_pos (by simp [Region.wanted])]
  refine .inl ?_
  unfold Oper.wp
  rw [hrun]
  refine h E rfl _ w I _ (R1.put (dst := some i) (fun j hj => by cases hj; simpa [dstB] using c3) (x := .dt z2 (.l gg) 0 off) ⟨hrep, hg, .slice none 0 0, by simpa [Value.cells] using hoff, ?_⟩)
  simp only [upd_eq]
  rfl

theorem a_ap' {tt e : TypeId} {s x : Operand} {rr : Yr} {kk : Key} {m : Nat} {xs ys zs : List D} (hzs : xs ++ ys = zs) (hk : y.ky tt = some (.sl e)) (hr : y.Y e = some rr) (hs : evq t s = some (.rw kk m)) (hj : obq L F kk = some (.row e rr.sz xs)) (hx : Fz t L F x (.d (.sl ys))) (hm : m = xs.length) (ha : allSz rr.sz ys) (hz : (y.Z e).isSome = true) (h0 : decide (0 < rr.by_ ∧ 0 < rr.sz) = true) (hi : dstB n (some i) = true) (hb : zs.length * rr.by_ ≤ 140737488355328)
    (h : K (((⟨t, L, F⟩ : St).setO kk (.row e rr.sz zs)).put (some i) (.rw kk zs.length))) : aop P y n ⟨some i, .call ⟨.builtin .append, #[s, x], #[tt, tt]⟩, ty, pos, af, g⟩ ⟨t, L, F⟩ K := by
  subst hzs
  exact a_ap hk hr hs hj hx hm ha hz h0 hi hb h
/-- A variable forgets its link. -/
theorem Wk.undt {j m o : Nat} {z : D} {k : Key} (hj : look L j = some (.var (.dt z k m o))) : Wk n ⟨t, L, F⟩ ⟨t, (j, .var (.d z)) :: L, F⟩ := fun E _ a w I β R => by
  have hob : (⟨t, L, F⟩ : St).obj (.l j) = some (.var (.dt z k m o)) := hj
  obtain ⟨ty, us, h1, h2, h3⟩ := R.ob.rel (.l j) _ hob
  exact ⟨β, R.step (k := .l j) (o' := .var (.d z)) (Ext.refl w I) (Fr.refl w I _) (fun _ _ => ⟨rfl, rfl⟩) (.inr ⟨Keep.refl _ _, _, hob⟩) ⟨ty, us, h1, h2.1, h3⟩ (fun b hb => .inl ⟨_, hob, hb⟩) (fun h => h.elim) R.ob.new⟩
end

/-! ### Values, and answers in two cells -/
section
variable {K : St → Prop} {t : List (Nat × T)} {L : List (Nat × Ob)} {F : List Ob} {i q q' : Nat} {ty : TypeId} {pos : String} {af : Array Edge} {g : Option (Nat × Bool)}
theorem a_q {op : Op} {v : T} (hv : pval y ⟨t, L, F⟩ op = some v) (hq : (quietOp op && dstB n (some i)) = true) (h : K ⟨(i, v) :: t, L, F⟩) : aop P y n ⟨some i, op, ty, pos, af, g⟩ ⟨t, L, F⟩ K := by
  simp only [Bool.and_eq_true] at hq
  refine ⟨hq.2, ?_⟩
  have hh : ∃ r', pval y ⟨t, L, F⟩ op = some r' ∧ K ((⟨t, L, F⟩ : St).put (some i) r') := ⟨v, hv, h⟩
  have hq := hq.1
  cases op <;> first | exact hh | (simp [quietOp] at hq; done) | skip
  rename_i c
  simp only [quietOp] at hq
  split at hq
  · rename_i hcl
    simp only [hcl]
    exact hh
  · cases hq
theorem v_eqb {x z : Operand} {tt t2 : TypeId} {b : Bool} (hx : evq t x = some (.d (.b b))) (hz : evq t z = some (.d (.b b))) (hk : y.ky tt = some .bo) : pval y ⟨t, L, F⟩ (.binOp .eql tt x z t2) = some (.d (.b true)) := by
  simp only [pval, evq_ok (L := L) (F := F) hx, evq_ok (L := L) (F := F) hz, pBin, hk]
  simp
theorem v_eqi {x z : Operand} {tt t2 : TypeId} {k : IntKind} {b : Int} (hx : evq t x = some (.d (.i k b))) (hz : evq t z = some (.d (.i k b))) : pval y ⟨t, L, F⟩ (.binOp .eql tt x z t2) = some (.d (.b true)) := by
  simp only [pval, evq_ok (L := L) (F := F) hx, evq_ok (L := L) (F := F) hz, pBin, dint, true_or, if_true, Option.map_some]
  simp
theorem v_gei {x z : Operand} {tt t2 : TypeId} {k : IntKind} {a b : Int} (hx : evq t x = some (.d (.i k a))) (hz : evq t z = some (.d (.i k b))) (h : a ≥ b) : pval y ⟨t, L, F⟩ (.binOp .geq tt x z t2) = some (.d (.b true)) := by
  simp only [pval, evq_ok (L := L) (F := F) hx, evq_ok (L := L) (F := F) hz, pBin, dint, true_or, if_true, Option.map_some, decide_eq_true h]
theorem rvD_c {tt : TypeId} {kk : Key} {x : D} (hx : look t q = some (.pt kk 0)) (hl : ldq y L F tt (.pt kk 0) = some (.d x)) : rvD y ⟨t, L, F⟩ (.cell q tt) = some x := by
  simp only [rvD, rv, lk (L := L) (F := F) hx, ldq_ok hl]
  rfl
theorem r_2c {tt tt' : TypeId} {kk kk' : Key} {x z : D} {R : T → List Ob → Prop} (hx : look t q = some (.pt kk 0)) (hl : ldq y L F tt (.pt kk 0) = some (.d x)) (hz : look t q' = some (.pt kk' 0)) (hl' : ldq y L F tt' (.pt kk' 0) = some (.d z)) (h : R (.tu [x, z]) F) : aret y ⟨t, L, F⟩ [.cell q tt, .cell q' tt'] R :=
  .inl ⟨x, z, rvD_c hx hl, rvD_c hz hl', h⟩
end

/-! ### A contract with a new object, as one over data -/
theorem RelO.rowD {w : World} {I : Im} {β : Be} {k : Key} {e : TypeId} {sz : Nat} {xs : List D} (h : RelO w I β k (.row e sz xs)) {v : Value} (hv : β.row k xs.length = some v) : RepD w I (.sl xs) v := by
  obtain ⟨h0, v', us, h1, h2, h3, h4, h5, h6⟩ := h
  rw [hv] at h1
  cases h1
  refine repD_of rfl ?_
  simp only [RepC]
  rcases h2.2 with ⟨rfl, hn⟩ | ⟨g, cap, cur, rfl, hge, hgg, hle, hcm, hcs, htk⟩
  · have : xs = [] := List.length_eq_zero_iff.1 hn
    subst this
    exact ⟨none, 0, us, sz, rfl, by simp, h3, h4, .inl rfl⟩
  · refine ⟨some ⟨g, 0, none⟩, cap, us, sz, rfl, hle, h3, h4, .inr ⟨_, rfl, rfl, fun j u hj => ?_⟩⟩
    have hlt : j < us.length := (List.getElem?_eq_some_iff.1 hj).1
    have hI := h5 g rfl
    have h21 := h2.1
    refine ⟨?_, by simp only; omega⟩
    simp only [World.cell?, hgg, Nat.zero_add]
    rw [← htk, List.getElem?_take] at hj
    split at hj
    · simpa using hj
    · cases hj
def frzN : T → Ob → Option D
  | .dt x _ _ _, _ => some x
  | .rw (.f 0) m, .row _ _ xs => if m = xs.length then some (.sl xs) else none
  | _, _ => none
theorem AM.data {f : FuncId} {args : List T} {F : List Ob} {R : T → List Ob → Ob → Prop} {R' : T → List Ob → Prop} (h : AM P f args F R) (hr : ∀ r Fo o, R r Fo o → ∃ x, frzN r o = some x ∧ R' (.d x) Fo) : AC P f args F R' :=
  ⟨h.1, fun w I β vs h0 h1 h2 h3 => (h.2 w I β vs h0 h1 h2 h3).mono fun _ _ ⟨v, r, Fo, o, I', β', γ, he, p⟩ => by
    obtain ⟨x, hx, hR⟩ := hr _ _ _ p.pr
    refine ⟨v, .d x, Fo, I', β', he, ⟨hR, by simp [T.keys], ?_, p.p.fin, p.p.ext, p.p.fr, p.p.kp, p.p.fo⟩⟩
    have hv := p.v
    have hob := p.ob
    unfold frzN at hx
    split at hx
    · cases hx; exact hv.1
    · rename_i m e sz xs
      obtain ⟨rfl, rfl⟩ := ite_some hx
      exact hob.rowD hv
    · cases hx⟩

theorem AM_fn (hY : TyOk P y) {f : FuncId} {fn : Func} {c : Code} {n : Nat} {x : ResultVar} {args : List T} {F : List Ob} {R : T → List Ob → Ob → Prop} (hf : P.funcs[f]? = some fn) (hb : fn.body = some c) (hn : fn.ntmps = n) (hrs : fn.results = [x].toArray) (hnm : (fn.name == "runtime.NumGoroutine") = false) (hl : (args.length ≤ n) = True)
    (h : Sc P n c (Sk P n (retM y x R) []) { t := enumT 0 args, L := [], F := F }) : AM P f args F R :=
  AM_of hY hf hb hn hrs hnm (by rw [hl]; trivial) h
theorem noPan_retM {x : ResultVar} {R : T → List Ob → Ob → Prop} : noPan (retM y x R) := fun _ _ h => h
section
variable {t : List (Nat × T)} {L : List (Nat × Ob)} {F : List Ob} {q : Nat} {R : T → List Ob → Ob → Prop}
theorem r_mw {j m : Nat} {o : Ob} (hx : look t q = some (.rw (.l j) m)) (ho : look L j = some o) (hk : o.keys = []) (h : R (.rw (.f 0) m) F o) : retM y (.tmp q) R .ret ⟨t, L, F⟩ :=
  ⟨.rw (.l j) m, by simp only [rv, lk (L := L) (F := F) hx], o, ho, hk, h⟩
theorem r_md {i j m off : Nat} {tt : TypeId} {z : D} {o : Ob} {rr : Yr} (hx : look t q = some (.pt (.l i) 0)) (hi : look L i = some (.var (.dt z (.l j) m off))) (hr : y.Y tt = some rr) (hg : rr.ky.agg = true) (hs : z.size = rr.sz) (ho : look L j = some o) (hk : o.keys = []) (h : R (.dt z (.f 0) m off) F o) : retM y (.cell q tt) R .ret ⟨t, L, F⟩ := by
  refine ⟨.dt z (.l j) m off, ?_, o, ho, hk, h⟩
  simp only [rv, lk (L := L) (F := F) hx, pLoad, hr]
  have hi' : (⟨t, L, F⟩ : St).obj (.l i) = some (.var (.dt z (.l j) m off)) := hi
  simp only [hi']
  rw [if_pos (by simp [hg, hs])]
end

/-! ### Drawn regions that change nothing -/
def cvOk (y : Ty) : Op → Bool
  | .convert s _ _ => (y.Y s).isSome
  | _ => true
def Sq (P : Program) (n : Nat) (ops : Array Oper) (p : Plan) (Q : Exit → St → Prop) (σ : St) : Prop :=
  ∀ f l, planB ops [] f l p = true → ∀ E : En, E.n = n → ∀ a w I β, Rel E σ a w I β → wpI P ops (Qr E Q) (fun w' => w' = w) [] f l a w
section
variable {Q : Exit → St → Prop} {k : List Kf} {ops : Array Oper} {p : Plan} {t : List (Nat × T)} {L : List (Nat × Ob)} {F : List Ob} {i d : Nat} {ty : TypeId} {pos : String} {af : Array Edge} {op : Op}
theorem q_start {id : Nat} (hm : P.follows .mixedOrders = true) (p : Plan) {l : List Oper} (hp : planB l.toArray [] l.length (Array.replicate l.length false) p = true) {σ : St} (h : Sq P n l.toArray p (Sk P n Q k) σ) : Sc P n (.region id l.toArray true) (Sk P n Q k) σ := fun E hE a w I β R => by
  have := wpI_any _ _ _ _ (h _ _ hp E hE a _ I β R.drew)
  exact wp_region_any hm (by simpa using this)
theorem q_done {σ : St} (h : Sk P n Q k .normal σ) : Sq P n ops .done (Sk P n Q k) σ := fun f l hp E hE a w I β R => by
  have hr : Region.ready .any ops l = [] := by cases f <;> simpa [planB] using hp
  cases f with
  | zero => exact ⟨hr, σ, I, β, R, h⟩
  | succ f => exact ⟨fun _ => ⟨σ, I, β, R, h⟩, fun i hi => by rw [hr] at hi; cases hi⟩
theorem q_tk (hY : TyOk P y) {oi : Oper} {x : T} (hi : ops[i]? = some oi) (ho : oi = ⟨some d, op, ty, pos, af, none⟩) (hv : pval y ⟨t, L, F⟩ op = some x) (hq : (cvOk y op && dstB n (some d)) = true) (hQ : noPan Q) (h : Sq P n ops p (Sk P n Q k) ⟨(d, x) :: t, L, F⟩) : Sq P n ops (.tk i p) (Sk P n Q k) ⟨t, L, F⟩ := fun f l hp E hE a w I β R => by
  subst ho
  subst hE
  cases f with
  | zero => simp [planB] at hp
  | succ f =>
    simp only [planB, hi, takeB, Bool.and_eq_true] at hp
    simp only [Bool.and_eq_true] at hq
    obtain ⟨⟨⟨⟨⟨⟨⟨b1, b2⟩, b3⟩, b4⟩, b5⟩, b6⟩, b7⟩, hp⟩ := hp
    have hcv : ∀ s d z, op = .convert s d z → ∃ u, P.underlying s = some u := fun s d z hz => by
      have hc := hq.1
      rw [hz] at hc
      simp only [cvOk] at hc
      obtain ⟨q, hq⟩ := Option.isSome_iff_exists.1 hc
      have := hY.kind s q hq
      revert this
      cases q.ky <;> simp only [IsKy] <;> first | exact fun h => ⟨_, h⟩ | exact fun ⟨_, h, _⟩ => ⟨_, h⟩
    obtain ⟨v, hrun, hvx⟩ := pval_ok (S := fun w' => w' = w) (G := fun _ => True) (fun w' hw => by rw [hw]; exact Stab.refl _ w I _ β) hY R (o := ⟨some d, op, ty, pos, af, none⟩) hv (fun _ _ _ _ _ _ => trivial) hcv
    have h1 := h f _ hp E rfl _ w I β (R.put (dst := some d) (fun j hj => by cases hj; simpa [dstB] using hq.2) hvx)
    exact wpI_first hi (noSel_ok b6) (fun c a' w' hp => by obtain ⟨σ', _, _, _, hq⟩ := hp; exact absurd hq (noPan_sk hQ k c σ')) ops.size (by simp) f l a w (aloneB_ok b2) (shutB_ok b3) (fun d hd => by cases hd) (fun d hd => by cases hd) (by simpa using b1) (.inl ⟨by simp [Region.wanted], hrun⟩) rfl h1
end

/-! ### Steps of a drawn region that may turn own variables -/
def Kw (E : En) (w : World) (I : Im) (σ : St) (β : Be) (st : Bool) (K : St → Prop) : Act → World → Prop := fun a' w' => ∃ σ' I' β', Rel E σ' a' w' I' β' ∧ K σ' ∧ Ext w I w' I' ∧ (st = false → ∀ i c, look σ.L i = some (.var c) → w'.heap[β.blk (.l i)]? = w.heap[β.blk (.l i)]? ∧ ∃ c', look σ'.L i = some (.var c') ∧ β'.blk (.l i) = β.blk (.l i))
def stepOk (P : Program) (n : Nat) (ops : Array Oper) (ds : List Nat) (Q : Exit → St → Prop) (i : Nat) (σ : St) (K : St → Prop) : Prop :=
  ∀ E : En, E.n = n → ∀ a w I β, Rel E σ a w I β → wpOp P ops (Qr E Q) i (Kw E w I σ β (ds.contains i) K) a w
section
variable {Q : Exit → St → Prop} {ops : Array Oper} {ds : List Nat} {f : Nat} {l : Array Bool} {σ : St} {p q : Plan} {i j : Nat}
theorem stepOk.of (hY : TyOk P y) {o : Oper} (ho : ops[i]? = some o) (hst : isSt o.op = false ∨ ds.contains i = true) {K : St → Prop} (h : oneOp P y n ops o σ K) : stepOk P n ops ds Q i σ K := fun E hE a w I β R => by
  subst hE
  refine wpOp_mono ?_ (oneOp_wpOp hY R ho h)
  rintro a' w' ⟨σ', I', β', R', hK, e, hv⟩
  refine ⟨σ', I', β', R', hK, e, fun hd j c hj => ?_⟩
  have hs : isSt o.op = false := by
    rcases hst with hs | hs
    · exact hs
    · rw [hd] at hs; cases hs
  exact ⟨(hv j c hj).1 hs, (hv j c hj).2⟩
theorem d_all2 {rs : List Nat} (hr : Region.ready .any ops l = rs) (hne : rs ≠ []) (h : ∀ i ∈ rs, ∃ K, stepOk P n ops ds Q i σ K ∧ ∀ τ, K τ → Sd P n ops ds f (l.setIfInBounds i true) Q τ) : Sd P n ops ds (f + 1) l Q σ := fun E hE a w I β R w0 I0 B e hB => by
  refine ⟨fun h0 => (by rw [hr] at h0; exact absurd h0 hne), fun i hi => ?_⟩
  have hun := (mem_ready.1 hi).1
  have hlt : i < l.size := by
    rcases Nat.lt_or_ge i l.size with h | h
    · exact h
    · simp [Array.getElem?_eq_none h] at hun
  rw [hr] at hi
  obtain ⟨K, h1, hK⟩ := h i hi
  refine wpOp_mono ?_ (h1 E hE a w I β R)
  rintro a' w' ⟨σ', I', β', R', h'0, e', v'⟩
  have h' := hK _ h'0
  have hdf : dfree ds (l.setIfInBounds i true) → dfree ds l ∧ ds.contains i = false := fun hd => by
    have hni : i ∉ ds := fun hm => by
      have := hd i hm
      simp [hlt] at this
    refine ⟨fun d hm => ?_, by simpa using hni⟩
    have hid : i ≠ d := fun e => hni (by rw [e]; exact hm)
    have := hd d hm
    rwa [getD_set_ne false hid] at this
  have hS : dfree ds (l.setIfInBounds i true) → (∀ b, B b → w'.heap[b]? = w0.heap[b]?) ∧ ∀ b, B b → ∃ j c, look σ'.L j = some (.var c) ∧ β'.blk (.l j) = b := fun hd => by
    obtain ⟨hd1, hd2⟩ := hdf hd
    obtain ⟨b1, b2⟩ := hB hd1
    refine ⟨fun b hb => ?_, fun b hb => ?_⟩
    · obtain ⟨j, c, hj, rfl⟩ := b2 b hb
      exact ((v' hd2 j c hj).1).trans (b1 _ hb)
    · obtain ⟨j, c, hj, rfl⟩ := b2 b hb
      obtain ⟨_, c', h3, h4⟩ := v' hd2 j c hj
      exact ⟨j, c', h3, h4⟩
  exact ⟨fun hd => ⟨⟨I', e.trans e'⟩, (hS hd).1⟩, h' E hE a' w' I' β' R' w0 I0 B (e.trans e') hS⟩
theorem p_oneS (h : stepOk P n ops ds Q i σ (Sp P n ops ds p Q)) : Sp P n ops ds (.one i p) Q σ := fun f l hp => by
  cases f with
  | zero => simp [planB] at hp
  | succ f =>
    simp only [planB, Bool.and_eq_true, beq_iff_eq] at hp
    refine d_all2 hp.1.1 (by simp) fun m hm => ?_
    simp only [List.mem_singleton] at hm
    subst hm
    exact ⟨_, h, fun τ hτ => hτ f _ hp.2⟩
theorem p_twoS (h : stepOk P n ops ds Q i σ (Sp P n ops ds p Q)) (h' : stepOk P n ops ds Q j σ (Sp P n ops ds q Q)) : Sp P n ops ds (.two i j p q) Q σ := fun f l hp => by
  cases f with
  | zero => simp [planB] at hp
  | succ f =>
    simp only [planB, Bool.and_eq_true, beq_iff_eq] at hp
    refine d_all2 hp.1.1.1.1 (by simp) fun m hm => ?_
    simp only [List.mem_cons, List.not_mem_nil, or_false] at hm
    rcases hm with rfl | rfl
    · exact ⟨_, h, fun τ hτ => hτ f _ hp.1.2⟩
    · exact ⟨_, h', fun τ hτ => hτ f _ hp.2⟩

theorem p_two (hY : TyOk P y) {o o' : Oper} (hi : ops[i]? = some o) (hj : ops[j]? = some o') (h : oneOp P y n ops o σ (Sp P n ops ds p Q)) (h' : oneOp P y n ops o' σ (Sp P n ops ds q Q)) : Sp P n ops ds (.two i j p q) Q σ := fun f l hp => by
  have hq := hp
  cases f with
  | zero => simp [planB] at hp
  | succ f =>
    simp only [planB, hi, hj, Bool.and_eq_true, Bool.or_eq_true, Bool.not_eq_true'] at hq
    exact p_twoS (stepOk.of hY hi hq.1.1.1.2 h) (stepOk.of hY hj hq.1.1.2 h') _ l hp

/-- A call that is lent own objects, variables too. -/
theorem stepOk.lend {t : List (Nat × T)} {L : List (Nat × Ob)} {ty : TypeId} {pos : String} {af : Array Edge} {d : Nat} {f : FuncId} {args : List Operand} {tys : Array TypeId} {ags' : List T} (ks : List Nat) {F' : List Ob} {S : T → List Ob → Prop} {K : St → Prop} {o : Oper} (hi : ops[i]? = some o) (ho : o = ⟨some d, .call ⟨.value (.func f), args.toArray, tys⟩, ty, pos, af, none⟩) (hds : ds.contains i = true) (hc : AC P f ags' F' S) (ha : Fzs t L [] args (ags'.map (tbk ks))) (hob : lentL ks L ks F')
    (hb : (nodB ks && noLs ags' && F'.all Ob.noL && dstB n (some d)) = true)
    (h : ∀ v Fo, S v Fo → (Fo.length == ks.length && Fo.all (fun o => o.keys.all (inK ks.length)) && v.keys.all (inK ks.length)) = true ∧ K ⟨(d, tbk ks v) :: t, lay (obk ks) ks Fo ++ L, []⟩) :
    stepOk P n ops ds Q i ⟨t, L, []⟩ K := fun E hE a w I β R => by
  subst hE
  subst ho
  simp only [Bool.and_eq_true, List.all_eq_true] at hb
  obtain ⟨⟨⟨b1, b2⟩, b3⟩, b5⟩ := hb
  obtain ⟨hl, hob'⟩ := lentL_ok hob
  have hv := R.evz args
  rw [ha.ok] at hv
  have hv' : All2 (RelT w I (β.bk ks)) ags' (args.map a.eval) := by
    clear ha hc
    generalize args.map a.eval = vs at hv
    induction ags' generalizing vs with
    | nil => cases vs with
      | nil => trivial
      | cons => exact hv.elim
    | cons x r ih => cases vs with
      | nil => exact hv.elim
      | cons v vs =>
        simp only [noLs, Bool.and_eq_true] at b2
        exact ⟨relT_bk.2 hv.1, ih b2.2 vs hv.2⟩
  have hfin := R.lend b1 hl hob' (fun o ho => Ob.noL_ok (b3 o ho))
  have hcalls := hc.2 w I (β.bk ks) _ (R.gd fun b hx => .inl (R.lend_lo hl hob' b hx)) hfin (noLs_ok b2) hv'
  have hf : a.eval (.func f) = .func (.func f) #[] ([] : List Value).toArray := rfl
  have hrun := run_enter (P := P) (a := a) (w := w) (o := ⟨some d, .call ⟨.value (.func f), args.toArray, tys⟩, ty, pos, af, none⟩) rfl rfl hf hc.1
  simp only [List.append_nil, List.toList_toArray] at hrun
  unfold wpOp
  simp only [hi]
  rw [if_pos (by simp [Region.wanted])]
  refine .inl ?_
  unfold Oper.wp
  rw [hrun]
  refine hcalls.mono ?_
  rintro e w' ⟨v, r', Fo, I', β', rfl, p⟩
  obtain ⟨h1, h2⟩ := h r' Fo p.pr
  simp only [Bool.and_eq_true, List.all_eq_true, beq_iff_eq] at h1
  obtain ⟨⟨c1, c2⟩, c3⟩ := h1
  have hq := R.lent (nw := []) (by simpa using b1) rfl hl hob' (by simp) p (by simpa using c1) (by simpa using c2) (by simpa using c3)
  rw [List.append_nil] at hq
  obtain ⟨R2, hv2⟩ := hq
  exact ⟨_, I', _, R2.put (dst := some d) (fun j hj => by cases hj; simpa [dstB] using b5) hv2, h2, p.ext, fun hd => by rw [hds] at hd; cases hd⟩
end
end Go.Proofs.Ytmclamindmnigaa.Ax

namespace Go.Proofs.Ytmclamindmnigaa.Ax
attribute [irreducible] Sc So Sk Sp Sq stepOk AC AN AM retQ retN retM aret Wk aop oneOp
end Go.Proofs.Ytmclamindmnigaa.Ax

