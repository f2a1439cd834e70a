import Derived.Test.YtcgjkfpkbhhkfaaGreatDoorE1
import Derived.Lib.UnsafeStr
set_option linter.unusedVariables false
set_option linter.unusedSimpArgs false
set_option linter.unusedSectionVars false
set_option autoImplicit true
set_option relaxedAutoImplicit true
/-
  A small machine over closed data, fifteen: maps that are asked.
-/
namespace Go.Ev

section
variable {P : Program} {φ : Map} {h : AHeap} {w : World}
variable {env : List (Option Tmp)} {ρ : Opd → Option AV} {ρ' : Operand → Value}

/-- the type of a map's keys -/
noncomputable def KT (P : Program) (e : KTy) (t : TypeId) : Prop := match e with
  | .int => ∃ k, P.underlying t = some (.int k)
  | .str => P.underlying t = some .string
  | .bool => P.underlying t = some .bool
  | .ptr => ∃ e n, P.underlying t = some (.pointer e) ∧ szT P e = some (n + 1)
theorem kty_sound {t : TypeId} {e : KTy} (hk : kty P t = some e) : KT P e t := by
  unfold kty at hk
  split at hk
  · rename_i k hu; cases hk; exact ⟨k, hu⟩
  · rename_i hu; cases hk; exact hu
  · rename_i hu; cases hk; exact hu
  · rename_i el hu
    split at hk
    · rename_i n hn; cases hk; exact ⟨el, n, hu, hn⟩
    · cases hk
  · cases hk
theorem run_checkKey {e : KTy} {t : TypeId} (hk : KT P e t) (b : Bool) (n : Nat) (x : Value) : (Instr.checkKey b (n + 1) t x).run P w = .ok () w := by
  cases e with
  | int => obtain ⟨k, hu⟩ := hk; simp [Instr.checkKey, run_underlying hu]
  | str => have hu : P.underlying t = some .string := hk; simp [Instr.checkKey, run_underlying hu]
  | bool => have hu : P.underlying t = some .bool := hk; simp [Instr.checkKey, run_underlying hu]
  | ptr => obtain ⟨el, n, hu, _⟩ := hk; simp [Instr.checkKey, run_underlying hu]

theorem findIn_nil {α β : Type} (f : α → Option Bool) : findIn f ([] : List (α × β)) = some none := rfl
theorem findIn_cons {α β : Type} (f : α → Option Bool) (a : α) (v : β) (l : List (α × β)) : findIn f ((a, v) :: l) = ob (f a) fun r => bi r (some (some v)) (findIn f l) := rfl

/-- what has been found among entries, the first of which has a number -/
inductive Found (φ : Map) (fs : List MapEntry) (i : Nat) : Option AV → Option (Nat × Value) → Prop where
  | no : Found φ fs i none none
  | yes (v : AV) (e : MapEntry) (k : Nat) (hk : fs[k]? = some e) (hv : VR φ v e.val) : Found φ fs i (some v) (some (i + k, e.val))
theorem Found.later {fs : List MapEntry} {i : Nat} {r : Option AV} {q : Option (Nat × Value)} (e : MapEntry) (H : Found φ fs (i + 1) r q) : Found φ (e :: fs) i r q := by
  cases H with
  | no => exact .no
  | yes v e' k hk hv => rw [Nat.add_assoc, Nat.add_comm 1 k]; exact .yes v e' (k + 1) (by simpa using hk) hv

theorem findNow_sound {d : TypeDesc} {f : AV → Option Bool} {x : Value} (hf : ∀ a y r, f a = some r → VR φ a y → Instr.sameNow d x y = some r) : ∀ (es : List (AV × AV)) (fs : List MapEntry) (i : Nat) (r : Option AV),
    EsR φ es fs → findIn f es = some r → ∃ q, Instr.findNow d x fs i = some q ∧ Found φ fs i r q := by
  intro es
  induction es with
  | nil => intro fs i r he hr; cases he; cases hr; exact ⟨none, rfl, .no⟩
  | cons p es ih =>
    intro fs i r he hr
    obtain ⟨a, v⟩ := p
    cases he with
    | cons _ _ e _ fs hk hv hs =>
      rw [findIn_cons] at hr
      obtain ⟨b, h1, h2⟩ := ob_inv hr
      have h3 := hf a e.key b h1 hk
      cases b with
      | true =>
        cases (show some (some v) = some r from h2)
        refine ⟨some (i, e.val), by simp [Instr.findNow, h3], ?_⟩
        have := Found.yes (φ := φ) (fs := e :: fs) (i := i) v e 0 rfl hv
        simpa using this
      | false =>
        obtain ⟨q, h4, h5⟩ := ih fs (i + 1) r hs h2
        exact ⟨q, by simp [Instr.findNow, h3, h4], h5.later e⟩
theorem findAsking_sound {t : TypeId} {f : AV → Option Bool} {x : Value} (hf : ∀ a y r, f a = some r → VR φ a y → (Op.equal t x y).run P w = .ok r w) : ∀ (es : List (AV × AV)) (fs : List MapEntry) (i : Nat) (r : Option AV),
    EsR φ es fs → findIn f es = some r → ∃ q, (Instr.findAsking t x fs i).run P w = .ok q w ∧ Found φ fs i r q := by
  intro es
  induction es with
  | nil => intro fs i r he hr; cases he; cases hr; exact ⟨none, by simp [Instr.findAsking], .no⟩
  | cons p es ih =>
    intro fs i r he hr
    obtain ⟨a, v⟩ := p
    cases he with
    | cons _ _ e _ fs hk hv hs =>
      rw [findIn_cons] at hr
      obtain ⟨b, h1, h2⟩ := ob_inv hr
      have h3 := hf a e.key b h1 hk
      cases b with
      | true =>
        cases (show some (some v) = some r from h2)
        refine ⟨some (i, e.val), by simp [Instr.findAsking, h3], ?_⟩
        have := Found.yes (φ := φ) (fs := e :: fs) (i := i) v e 0 rfl hv
        simpa using this
      | false =>
        obtain ⟨q, h4, h5⟩ := ih fs (i + 1) r hs h2
        exact ⟨q, by simp [Instr.findAsking, h3, h4], h5.later e⟩

theorem findKey_sound (R : Rep P φ h w) {e : KTy} {t : TypeId} (hk : KT P e t) {k : AV} {x : Value} (hx : VR φ k x) {es : List (AV × AV)} {fs : List MapEntry} {r : Option AV} (he : EsR φ es fs) (hr : find h e k es = some r) :
    ∃ q, (Instr.findKey t x fs).run P w = .ok q w ∧ Found φ fs 0 r q := by
  have now : ∀ {d : TypeDesc}, P.underlying t = some d → (∀ a y r, aeqK e h k a = some r → VR φ a y → Instr.sameNow d x y = some r) → ∃ q, (Instr.findKey t x fs).run P w = .ok q w ∧ Found φ fs 0 r q := by
    intro d hu hf
    obtain ⟨q, h1, h2⟩ := findNow_sound hf es fs 0 r he hr
    exact ⟨q, by simp [Instr.findKey, run_underlying hu, h1], h2⟩
  cases e with
  | int =>
    obtain ⟨kk, hu⟩ := hk
    refine now hu ?_
    intro a y r ha hy
    obtain ⟨l, m, n, rfl, rfl, rfl⟩ := aeqI_inv ha
    cases hx; cases hy
    simp [Instr.sameNow]
  | str =>
    refine now hk ?_
    intro a y r ha hy
    obtain ⟨l, m, rfl, rfl, rfl⟩ := aeqS_inv ha
    cases hx with
    | str _ bs hb => cases hy with
      | str _ cs hc =>
        subst hb; subst hc
        rw [← bytes_eq]
        simp only [Instr.sameNow]
        rw [beq_toListBytes]
  | bool =>
    refine now hk ?_
    intro a y r ha hy
    obtain ⟨l, m, rfl, rfl, rfl⟩ := aeqB_inv ha
    cases hx; cases hy
    simp [Instr.sameNow]
  | ptr =>
    obtain ⟨el, n, hu, hn⟩ := hk
    cases es with
    | nil => cases he; cases hr; exact ⟨none, by simp [Instr.findKey, run_underlying hu, Instr.findNow], .no⟩
    | cons p es =>
      obtain ⟨q, h1, h2⟩ := findAsking_sound (P := P) (w := w) (t := t) (x := x) (f := fun a => aeqK .ptr h k a) (fun a y r ha hy => pteq_sound R 9999 hu hn ha hx hy) _ fs 0 r he hr
      refine ⟨q, ?_, h2⟩
      cases he with
      | cons _ _ e _ fs' _ _ _ =>
        simp only [Instr.findKey, Sem.run_bind, run_underlying hu, Result.andThen_ok]
        have : Instr.findNow (.pointer el) x (e :: fs') 0 = none := by
          simp [Instr.findNow, Instr.sameNow]
        rw [this]
        exact h1

theorem g_lkp (R : Rep P φ h w) {e : KTy} {t kt et : TypeId} {z : AV} {ok : Bool} {x y : Value} {m k a : AV} (hu : P.underlying t = some (.map kt et)) (hk : KT P e kt) (hz : zeroT P et = some z) (hx : VR φ m x) (hy : VR φ k y)
    (he : onMap m (fun b => ob (hget h b) fun x => onMapO x (fun es => ob (find h e k es) fun r => some (orE r (okv ok z false) fun v => okv ok v true)) none) (gd (isNilm m) (some (okv ok z false))) = some a) :
    Gives P φ w (Instr.lookup t x y ok) a := by
  obtain ⟨zv, hz1, hz2⟩ := run_zero (φ := φ) (w := w) hz
  have res : ∀ (v : AV) (u : Value) (r : Bool), VR φ v u → VR φ (okv ok v r) (if ok then .tuple #[u, .bool r] else u) := by
    intro v u r hv
    cases ok with
    | true => exact .tup _ _ (.cons _ _ _ _ hv (.cons _ _ _ _ (.bool _) .nil))
    | false => exact hv
  rcases onMap_or (v := m) he with ⟨b, rfl, h1⟩ | h1
  · obtain ⟨o, h2, h3⟩ := ob_inv h1
    obtain ⟨es, rfl, h4⟩ := onMapO_inv (v := o) h3
    obtain ⟨r, h5, h6⟩ := ob_inv h4
    cases h6
    cases hx with
    | map _ L hL =>
      obtain ⟨fs, clock, h7, h8, _⟩ := R.map h2 hL
      obtain ⟨q, h9, h10⟩ := findKey_sound R hk hy h8 h5
      cases h10 with
      | no =>
        refine ⟨if ok then .tuple #[zv, .bool false] else zv, ?_, res _ _ _ hz2⟩
        simp only [Instr.lookup, Sem.run_bind, run_underlying hu, Result.andThen_ok, run_getMap h7, Sem.run_pure, run_checkKey hk, h9, hz1]
      | yes v e' i hi hv =>
        refine ⟨if ok then .tuple #[e'.val, .bool true] else e'.val, ?_, res _ _ _ hv⟩
        simp only [Instr.lookup, Sem.run_bind, run_underlying hu, Result.andThen_ok, run_getMap h7, Sem.run_pure, run_checkKey hk, h9]
  · obtain ⟨h2, h3⟩ := gd_inv (b := isNilm m) h1
    cases h3
    cases isNilm_eq h2
    cases hx
    refine ⟨if ok then .tuple #[zv, .bool false] else zv, ?_, res _ _ _ hz2⟩
    have hf : (Instr.findKey kt y []).run P w = .ok none w := by
      have : ∃ d, P.underlying kt = some d := by
        cases e with
        | int => obtain ⟨k, hu⟩ := hk; exact ⟨_, hu⟩
        | str => exact ⟨_, hk⟩
        | bool => exact ⟨_, hk⟩
        | ptr => obtain ⟨el, n, hu, _⟩ := hk; exact ⟨_, hu⟩
      obtain ⟨d, hd⟩ := this
      simp [Instr.findKey, run_underlying hd, Instr.findNow]
    have hf' : (Instr.findKey kt y (#[] : Array MapEntry).toList).run P w = .ok none w := hf
    simp only [Instr.lookup, Sem.run_bind, run_underlying hu, Result.andThen_ok, Sem.run_pure, run_checkKey hk, hf', hz1]
end

end Go.Ev
/-
  A small machine over closed data, sixteen: whatever only looks gives what the model's gives.
-/
namespace Go.Ev

section
variable {P : Program} {φ : Map} {h : AHeap} {w : World}
variable {env : List (Option Tmp)} {ρ : Opd → Option AV} {ρ' : Operand → Value}

noncomputable def notNum : Value → Bool
  | .int _ _ | .float _ _ | .complex _ _ _ | .string _ => false
  | _ => true
theorem binOp_eq {x y : Value} (t : TypeId) (neg : Bool) (hx : notNum x = true) : (Go.binOp (bi neg .neq .eql) t x y).run P w = ((Op.equal t x y).run P w).andThen fun b w' => .ok (.bool (bi neg (!b) b)) w' := by
  cases neg
  · rw [bi_false]
    cases x <;> first | (cases hx; done) | (cases y <;> simp [Go.binOp, bi_false])
  · rw [bi_true]
    cases x <;> first | (cases hx; done) | (cases y <;> simp [Go.binOp, bi_true])
theorem guard_other {op : BinOp} {t : TypeId} {x y : Operand} {a b : Value} (h1 : ¬ (a = .nilIface ∧ b = .nilIface)) (h2 : ∀ c d, ¬ (a = .agg c ∧ b = .agg d)) : (eqGuard op t x y a b).run P w = .ok () w := by
  cases a with
  | nilIface => cases b with
    | nilIface => exact absurd ⟨rfl, rfl⟩ h1
    | _ => cases op <;> simp [eqGuard]
  | agg c => cases b with
    | agg d => exact absurd ⟨rfl, rfl⟩ (h2 _ _)
    | _ => cases op <;> simp [eqGuard]
  | _ => cases op <;> simp [eqGuard]
theorem guard_ord {op : BinOp} {t : TypeId} {x y : Operand} {a b : Value} (h1 : op ≠ .eql) (h2 : op ≠ .neq) : (eqGuard op t x y a b).run P w = .ok () w := by
  cases op <;> first | (exact absurd rfl h1) | (exact absurd rfl h2) | simp [eqGuard]
theorem run_guardIn {t : TypeId} {ms : Array (String × TypeId)} (hu : P.underlying t = some (.interface ms)) (d : Nat) : (Op.eqGuardIn (d + 1) t .nilIface .nilIface).run P w = .ok (!ms.isEmpty) w := by
  simp only [Op.eqGuardIn, Sem.run_bind, run_underlying hu, Result.andThen_ok, Sem.run_pure]
theorem guard_nn {op : BinOp} {t : TypeId} {ms : Array (String × TypeId)} {x y : Operand} (hu : P.underlying t = some (.interface ms)) (hc : (ms.isEmpty || (isC x || isC y)) = true) :
    (eqGuard op t x y .nilIface .nilIface).run P w = .ok () w := by
  have h1 : (Op.eqGuardIn Op.maxDepth t .nilIface .nilIface).run P w = .ok (!ms.isEmpty) w := run_guardIn hu 9999
  cases x <;> cases y <;> simp only [isC, Bool.or_false, Bool.or_true] at hc <;> cases op <;> simp [eqGuard, h1, hc]
theorem guard_ifc {op : BinOp} {t : TypeId} {ms : Array (String × TypeId)} {x y : Operand} {a b : Value} (hu : P.underlying t = some (.interface ms)) (hc : (ms.isEmpty || (isC x || isC y)) = true) (h2 : ∀ c d, ¬ (a = .agg c ∧ b = .agg d)) :
    (eqGuard op t x y a b).run P w = .ok () w := by
  by_cases h1 : a = .nilIface ∧ b = .nilIface
  · obtain ⟨rfl, rfl⟩ := h1; exact guard_nn hu hc
  · exact guard_other h1 h2

theorem binOp_gives {op : BinOp} {t : TypeId} {x y : Operand} {a : AV} (hg : (eqGuard op t x y (ρ' x) (ρ' y)).run P w = .ok () w) (hb : Gives P φ w (Go.binOp op t (ρ' x) (ρ' y)) a) :
    Gives P φ w (do eqGuard op t x y (ρ' x) (ρ' y); Go.binOp op t (ρ' x) (ρ' y)) a := by
  obtain ⟨v, h1, h2⟩ := hb
  exact ⟨v, by simp only [Sem.run_bind, hg, Result.andThen_ok, h1], h2⟩
theorem eq_gives {t : TypeId} {neg r : Bool} {x y : Value} (hn : notNum x = true) (he : (Op.equal t x y).run P w = .ok r w) : Gives P φ w (Go.binOp (bi neg .neq .eql) t x y) (.bool (bi neg (not r) r)) :=
  ⟨_, by rw [binOp_eq t neg hn, he]; rfl, .bool _⟩

/-- a value that a comparison asks for neither of an interface nor of a struct -/
noncomputable def plainV : Value → Bool
  | .nilIface | .agg _ => false
  | _ => true
theorem guard_plain {op : BinOp} {t : TypeId} {x y : Operand} {a b : Value} (ha : plainV a = true) : (eqGuard op t x y a b).run P w = .ok () w :=
  guard_other (by rintro ⟨rfl, _⟩; cases ha) (by rintro c d ⟨rfl, _⟩; cases ha)

theorem ety_agg {t : TypeId} {e : ETy} {a b : AV} {r : Bool} (hu : (∃ fs, P.underlying t = some (.struct fs)) ∨ ∃ n u, P.underlying t = some (.array n u)) (he : ety P 20 t = some e) (hq : aeq 20 e a b = some r) :
    (∃ l, a = .agg l) ∧ ∃ l, b = .agg l := by
  unfold ety at he
  rcases hu with ⟨fs, hu⟩ | ⟨n, u, hu⟩
  · rw [hu] at he
    simp only at he
    cases hs : P.stoodInHeld t with
    | true => rw [hs] at he; cases he
    | false =>
      rw [hs] at he
      simp only [cond_false] at he
      split at he
      · cases he
        obtain ⟨l, rfl, h1⟩ := onAgg_inv (v := a) hq
        obtain ⟨m, rfl, _⟩ := onAgg_inv (v := b) h1
        exact ⟨⟨l, rfl⟩, ⟨m, rfl⟩⟩
      · cases he
  · rw [hu] at he
    simp only at he
    split at he
    · cases he
      obtain ⟨l, rfl, h1⟩ := onAgg_inv (v := a) hq
      obtain ⟨m, rfl, _⟩ := onAgg_inv (v := b) h1
      exact ⟨⟨l, rfl⟩, ⟨m, rfl⟩⟩
    · cases he
theorem cEq_sound (R : Rep P φ h w) {neg : Bool} {t : TypeId} {x y : Operand} {p q : Opd} {qo : QOp} {a b r : AV} (hx : VR φ a (ρ' x)) (hy : VR φ b (ρ' y)) (hp : ρ p = some a) (hq : ρ q = some b)
    (hc : cEq P neg t (or (isC x) (isC y)) p q = some (.q qo)) (he : evq qo ρ h = some r) :
    Gives P φ w (do eqGuard (bi neg .neq .eql) t x y (ρ' x) (ρ' y); Go.binOp (bi neg .neq .eql) t (ρ' x) (ρ' y)) r := by
  have two : ∀ {f : AV → AV → Option AV}, (ob (ρ p) fun a => ob (ρ q) fun b => f a b) = some r → f a b = some r := by
    intro f hf; rw [hp, hq] at hf; exact hf
  unfold cEq at hc
  split at hc
  · cases hc
    have he : bin (bi neg .neq .eql) a b = some r := two he
    refine binOp_gives (guard_plain ?_) (bin_sound t hx hy he)
    generalize ρ' x = x' at hx
    cases hx <;> first | rfl | exact absurd he (by intro h; cases h)
  · cases hc
    have he : bin (bi neg .neq .eql) a b = some r := two he
    refine binOp_gives (guard_plain ?_) (bin_sound t hx hy he)
    generalize ρ' x = x' at hx
    cases hx <;> first | rfl | exact absurd he (by intro h; cases h)
  · rename_i hu
    cases hc
    obtain ⟨v, h1, h2⟩ := ob_inv (two he)
    cases h2
    obtain ⟨l, m, rfl, rfl, rfl⟩ := aeqB_inv h1
    have hrun := eqB_run (P := P) (w := w) 9999 hu h1 hx hy
    have hpx : ρ' x = .bool l := by generalize ρ' x = x' at hx; cases hx; rfl
    exact binOp_gives (guard_plain (by rw [hpx]; rfl)) (eq_gives (by rw [hpx]; rfl) hrun)
  · rename_i e hu
    split at hc
    · rename_i n hn
      cases hc
      obtain ⟨v, h1, h2⟩ := ob_inv (two he)
      cases h2
      have hrun := pteq_sound R 9999 hu hn h1 hx hy
      have hpp : ∃ pa, ρ' x = .pointer pa := by
        rcases onPtr_or (v := a) h1 with ⟨c, o, rfl, _⟩ | h3
        · generalize ρ' x = x' at hx; cases hx; exact ⟨_, rfl⟩
        · obtain ⟨h4, _⟩ := gd_inv (b := isNilp a) h3
          cases isNilp_eq h4
          generalize ρ' x = x' at hx; cases hx; exact ⟨_, rfl⟩
      obtain ⟨pa, hpa⟩ := hpp
      exact binOp_gives (guard_plain (by rw [hpa]; rfl)) (eq_gives (by rw [hpa]; rfl) hrun)
    · cases hc
  · rename_i e hu
    cases hc
    obtain ⟨v, h1, h2⟩ := ob_inv (two he)
    cases h2
    have hrun := nileq_sound (P := P) (w := w) 9999 (k := 0) ⟨e, hu⟩ h1 hx hy
    obtain ⟨h3, _⟩ := gd_inv (b := Nat.beq (nkind a) 0) h1
    have hpx : plainV (ρ' x) = true ∧ notNum (ρ' x) = true := by
      generalize ρ' x = x' at hx
      cases hx <;> first | exact ⟨rfl, rfl⟩ | cases h3
    exact binOp_gives (guard_plain hpx.1) (eq_gives hpx.2 hrun)
  · rename_i d e hu
    cases hc
    obtain ⟨v, h1, h2⟩ := ob_inv (two he)
    cases h2
    have hrun := nileq_sound (P := P) (w := w) 9999 (k := 1) ⟨d, e, hu⟩ h1 hx hy
    obtain ⟨h3, _⟩ := gd_inv (b := Nat.beq (nkind a) 1) h1
    have hpx : plainV (ρ' x) = true ∧ notNum (ρ' x) = true := by
      generalize ρ' x = x' at hx
      cases hx <;> first | exact ⟨rfl, rfl⟩ | cases h3
    exact binOp_gives (guard_plain hpx.1) (eq_gives hpx.2 hrun)
  · rename_i c d e hu
    cases hc
    obtain ⟨v, h1, h2⟩ := ob_inv (two he)
    cases h2
    have hrun := nileq_sound (P := P) (w := w) 9999 (k := 2) ⟨c, d, e, hu⟩ h1 hx hy
    obtain ⟨h3, _⟩ := gd_inv (b := Nat.beq (nkind a) 2) h1
    have hpx : plainV (ρ' x) = true ∧ notNum (ρ' x) = true := by
      generalize ρ' x = x' at hx
      cases hx <;> first | exact ⟨rfl, rfl⟩ | cases h3
    exact binOp_gives (guard_plain hpx.1) (eq_gives hpx.2 hrun)
  · rename_i ms hu
    cases hm : (ms.isEmpty || (isC x || isC y)) with
    | false => rw [hm] at hc; cases hc
    | true =>
      rw [hm] at hc
      cases hc
      obtain ⟨v, h1, h2⟩ := ob_inv (two he)
      cases h2
      have hrun := ifeq_sound (P := P) (w := w) 9999 hu h1 hx hy
      have hpx : notNum (ρ' x) = true ∧ ∀ c, ρ' x ≠ .agg c := by
        rcases onIface_or (v := a) h1 with ⟨t1, v1, rfl, _⟩ | ⟨h3, _⟩
        · generalize ρ' x = x' at hx; cases hx; exact ⟨rfl, by intro c hc; cases hc⟩
        · obtain ⟨h4, _⟩ := gd_inv (b := isNili a) h3
          cases isNili_eq h4
          generalize ρ' x = x' at hx; cases hx; exact ⟨rfl, by intro c hc; cases hc⟩
      exact binOp_gives (guard_ifc hu hm (fun c d hcd => hpx.2 c hcd.1)) (eq_gives hpx.1 hrun)
  all_goals first
    | (cases hc; done)
    | (cases hg : P.eqGuardType P.depth t with
       | true => rw [hg] at hc; cases hc
       | false =>
         rw [hg] at hc
         simp only [cond_false] at hc
         split at hc
         · rename_i e hety
           cases hc
           obtain ⟨v, h1, h2⟩ := ob_inv (two he)
           cases h2
           have hrun := aeq_sound (P := P) (φ := φ) (w := w) 20 20 10000 (by decide) e t a b _ _ v hety h1 hx hy
           have hagg : (∃ c d, ρ' x = .agg c ∧ ρ' y = .agg d) := by
             obtain ⟨⟨l, rfl⟩, ⟨m, rfl⟩⟩ := ety_agg (P := P) (by first | exact .inl ⟨_, by assumption⟩ | exact .inr ⟨_, _, by assumption⟩) hety h1
             generalize ρ' x = x' at hx
             generalize ρ' y = y' at hy
             cases hx; cases hy
             exact ⟨_, _, rfl, rfl⟩
           obtain ⟨c, d, e1, e2⟩ := hagg
           refine binOp_gives ?_ (eq_gives (by rw [e1]; rfl) hrun)
           rw [e1, e2]
           exact run_eqGuard_agg w _ t x y c d hg
         · cases hc)
end

end Go.Ev
/-
  A small machine over closed data, seventeen: the theorem of what only looks.
-/
namespace Go.Ev

section
variable {P : Program} {φ : Map} {h : AHeap} {w : World}
variable {env : List (Option Tmp)} {ρ : Opd → Option AV} {ρ' : Operand → Value}

theorem ob2_inv {α β γ : Type} {o : Option α} {p : Option β} {f : α → β → Option γ} {r : γ} (he : (ob o fun a => ob p fun b => f a b) = some r) : ∃ a b, o = some a ∧ p = some b ∧ f a b = some r := by
  obtain ⟨a, h1, h2⟩ := ob_inv he
  obtain ⟨b, h3, h4⟩ := ob_inv h2
  exact ⟨a, b, h1, h3, h4⟩
theorem cq {o p : QOp} (hc : q o = some (AOp.q p)) : o = p := by cases hc; rfl

theorem cBin_sound (R : Rep P φ h w) (H : OpdR φ env ρ ρ') {op : BinOp} {t : TypeId} {x y : Operand} {qo : QOp} {a : AV} (hc : cBin P env op t x y = some (.q qo)) (he : evq qo ρ h = some a) :
    Gives P φ w (do eqGuard op t x y (ρ' x) (ρ' y); Go.binOp op t (ρ' x) (ρ' y)) a := by
  unfold cBin at hc
  split at hc
  · rename_i p q' hp hq
    have key : ∀ neg, cEq P neg t (or (isC x) (isC y)) p q' = some (.q qo) → Gives P φ w (do eqGuard (bi neg .neq .eql) t x y (ρ' x) (ρ' y); Go.binOp (bi neg .neq .eql) t (ρ' x) (ρ' y)) a := by
      intro neg hce
      have : ∃ u v, ρ p = some u ∧ ρ q' = some v := by
        have hce' := hce
        unfold cEq at hce'
        split at hce'
        all_goals first
          | (cases hce'; done)
          | (cases hce'; obtain ⟨u, v, h1, h2, _⟩ := ob2_inv he; exact ⟨u, v, h1, h2⟩)
          | (split at hce' <;> first
              | (cases hce'; done)
              | (cases hce'; obtain ⟨u, v, h1, h2, _⟩ := ob2_inv he; exact ⟨u, v, h1, h2⟩))
          | (cases hm : (‹Array (String × TypeId)›.isEmpty || (isC x || isC y)) <;> rw [hm] at hce' <;> first
              | (cases hce'; done)
              | (cases hce'; obtain ⟨u, v, h1, h2, _⟩ := ob2_inv he; exact ⟨u, v, h1, h2⟩))
          | (cases hg : P.eqGuardType P.depth t <;> rw [hg] at hce' <;> simp only [cond_false, cond_true] at hce' <;> first
              | (cases hce'; done)
              | (split at hce' <;> first
                  | (cases hce'; done)
                  | (cases hce'; obtain ⟨u, v, h1, h2, _⟩ := ob2_inv he; exact ⟨u, v, h1, h2⟩)))
      obtain ⟨u, v, h1, h2⟩ := this
      exact cEq_sound R (H x p u hp h1) (H y q' v hq h2) h1 h2 hce he
    cases op
    case eql => exact key false hc
    case neq => exact key true hc
    all_goals
      cases hc
      obtain ⟨u, v, h1, h2, h3⟩ := ob2_inv he
      exact binOp_gives (guard_ord (by decide) (by decide)) (bin_sound t (H x p u hp h1) (H y q' v hq h2) h3)
  · cases hc

theorem cConv_sound (R : Rep P φ h w) (H : OpdR φ env ρ ρ') {s d : TypeId} {x : Operand} {qo : QOp} {a : AV} (hc : cConv P env s d x = some (.q qo)) (he : evq qo ρ h = some a) : Gives P φ w (convert s d (ρ' x)) a := by
  unfold cConv at hc
  split at hc
  · rename_i l k p h1 h2 h3
    cases hc
    obtain ⟨v, h4, h5⟩ := ob_inv he
    exact g_conv h1 h2 (H x p v h3 h4) h5
  · rename_i p h1 h2 h3
    cases hc
    obtain ⟨v, h4, h5⟩ := ob_inv he
    obtain ⟨b, rfl, h6⟩ := onStr_inv (v := v) h5
    cases h6
    have hx := H x p _ h3 h4
    generalize ρ' x = x' at hx
    cases hx with
    | str _ bs hb => exact ⟨.string bs, by simp [convert, run_underlying h1, run_underlying h2], .str _ _ hb⟩
  · split at hc <;> cases hc
  · cases hc

theorem array_one {α : Type} {x : Array α} {a : α} (hx : x.toList = [a]) : x = #[a] := by
  apply Array.toList_inj.mp; exact hx
theorem cBuiltin_sound (R : Rep P φ h w) (H : OpdR φ env ρ ρ') {b : Builtin} {args : Array Operand} {ats : Array TypeId} {ty : TypeId} {cs : Array Bool} {qo : QOp} {a : AV} (Hc : ∀ v, ρ (.cst v) = some v) (hc : cBuiltin P env b args.toList ats.toList = some (.q qo)) (he : evq qo ρ h = some a)
    {C : Prop} (fin : ∀ (s : Sem Value), builtin b ats ty cs (args.map ρ') = (do pure (Next.value (← s))) → Gives P φ w s a → C) : C := by
  unfold cBuiltin at hc
  split at hc
  · rename_i x t hx ht
    cases array_one hx
    cases array_one ht
    have hm : (#[x] : Array Operand).map ρ' = #[ρ' x] := by simp
    rw [hm] at fin
    split at hc
    · rename_i p h1 h2
      cases hc
      obtain ⟨v, h3, h4⟩ := ob_inv he
      exact fin _ rfl (g_lenS h1 (H x p v h2 h3) h4)
    · rename_i e p h1 h2
      cases hc
      obtain ⟨v, h3, h4⟩ := ob_inv he
      exact fin _ rfl (g_len h1 (H x p v h2 h3) h4)
    · rename_i d e p h1 h2
      cases hc
      obtain ⟨v, h3, h4⟩ := ob_inv he
      exact fin _ rfl (g_lenM R h1 (H x p v h2 h3) h4)
    · rename_i n e p h1 h2
      cases hc
      have he : ρ (.cst (.int .i64 (.ofNat n))) = some a := he
      rw [Hc] at he
      cases he
      exact fin _ rfl ⟨.int .i64 n, by simp [Builtin.len_, run_underlying h1, goInt], .int _ _⟩
    · cases hc
  · repeat' first
      | (cases hc; done)
      | split at hc
  · repeat' first
      | (cases hc; done)
      | split at hc
  · rename_i x l hx
    split at hc
    · rename_i p q h1 h2
      cases hc
      obtain ⟨v, h3, h4⟩ := ob_inv he
      obtain ⟨k, m, rfl, h5⟩ := onInt_inv (v := v) h4
      obtain ⟨u, g1, g2⟩ := mx_sound (P := P) (w := w) H l q k m a h2 h5
      have hxv := H x p _ h1 h3
      generalize hxx : ρ' x = x' at hxv
      cases hxv
      refine fin _ rfl ⟨u, ?_, g2⟩
      simp only [Builtin.max_, Array.toList_map, hx, List.map_cons, hxx]
      exact g1
    · cases hc
  · rename_i x l hx
    split at hc
    · rename_i p q h1 h2
      cases hc
      obtain ⟨v, h3, h4⟩ := ob_inv he
      obtain ⟨k, m, rfl, h5⟩ := onInt_inv (v := v) h4
      obtain ⟨u, g1, g2⟩ := mn_sound (P := P) (w := w) H l q k m a h2 h5
      have hxv := H x p _ h1 h3
      generalize hxx : ρ' x = x' at hxv
      cases hxv
      refine fin _ rfl ⟨u, ?_, g2⟩
      simp only [Builtin.min_, Array.toList_map, hx, List.map_cons, hxx]
      exact g1
    · cases hc
  all_goals
    repeat' first
      | (cases hc; done)
      | split at hc

theorem evq_sound (R : Rep P φ h w) (H : OpdR φ env ρ ρ') (Hc : ∀ v, ρ (.cst v) = some v) {o : Oper} {qo : QOp} {a : AV} (hc : cop? P env o = some (.q qo)) (he : evq qo ρ h = some a) :
    ∃ v, (execOp ρ' o).run P w = .ok (.value v) w ∧ VR φ a v := by
  obtain ⟨dst, op, ty, ps, af, gd⟩ := o
  have fin : ∀ {s : Sem Value}, execOp ρ' ⟨dst, op, ty, ps, af, gd⟩ = (do pure (Next.value (← s))) → Gives P φ w s a → ∃ v, (execOp ρ' ⟨dst, op, ty, ps, af, gd⟩).run P w = .ok (.value v) w ∧ VR φ a v := by
    intro s hs hg; rw [hs]; exact hg.next
  cases op
  case move x =>
    unfold cop? at hc; dsimp only at hc
    split at hc
    · rename_i y hy; cases hc; exact ⟨ρ' x, by simp [execOp], H x y a hy he⟩
    · cases hc
  case assign x =>
    unfold cop? at hc; dsimp only at hc
    split at hc
    · rename_i y hy; cases hc; exact ⟨ρ' x, by simp [execOp], H x y a hy he⟩
    · cases hc
  case pick c x y =>
    unfold cop? at hc; dsimp only at hc
    split at hc
    · rename_i c' x' y' h1 h2 h3
      cases hc
      obtain ⟨t, h4, h5⟩ := ob_inv he
      obtain ⟨b, rfl, h6⟩ := onBool_inv (v := t) h5
      have hcv := H c c' _ h1 h4
      cases b with
      | true =>
        have := H x x' a h2 h6
        refine ⟨ρ' x, ?_, this⟩
        generalize hcc : ρ' c = cv at hcv
        cases hcv
        simp [execOp, asBool, hcc]
      | false =>
        have := H y y' a h3 h6
        refine ⟨ρ' y, ?_, this⟩
        generalize hcc : ρ' c = cv at hcv
        cases hcv
        simp [execOp, asBool, hcc]
    · cases hc
  case build t parts =>
    unfold cop? at hc; dsimp only at hc
    split at hc
    · rename_i z fs hz hu
      split at hc
      · rename_i pl hp
        split at hc
        · rename_i ps' hps
          cases hc
          exact fin rfl (g_bldS H hz hu hp hps he)
        · cases hc
      · cases hc
    · rename_i z n e hz hu
      split at hc
      · rename_i m hm
        split at hc
        · rename_i ps' hps
          cases hc
          exact fin rfl (g_bldA H hz hu hm hps he)
        · cases hc
      · cases hc
    · cases hc
  case load t x =>
    unfold cop? at hc; dsimp only at hc
    split at hc
    · rename_i y n g h1 h2 h3
      cases hc
      obtain ⟨v, h4, h5⟩ := ob_inv he
      exact fin rfl (g_ld R (H x y v h1 h4) h2 h3 h5)
    · cases hc
  case nilCheck x =>
    unfold cop? at hc; dsimp only at hc
    split at hc
    · rename_i y hy
      cases hc
      obtain ⟨v, h4, h5⟩ := ob_inv he
      obtain ⟨h6, h7⟩ := gd_inv (b := isThere v) h5
      cases h7
      exact g_nck ⟨dst, .nilCheck x, ty, ps, af, gd⟩ x rfl rfl (H x y a hy h4) h6
    · cases hc
  case binOp op t x y yt =>
    exact fin rfl (cBin_sound R H hc he)
  case unOp op t x =>
    unfold cop? at hc; dsimp only at hc
    split at hc
    · rename_i y hy
      cases hc
      obtain ⟨v, h4, h5⟩ := ob_inv he
      exact fin rfl (g_un (H x y v hy h4) h5)
    · cases hc
  case convert s d x =>
    exact fin rfl (cConv_sound R H hc he)
  case makeInterface t x =>
    unfold cop? at hc; dsimp only at hc
    split at hc
    · cases hc
    · rename_i y d hd hy hu
      cases hc
      obtain ⟨v, h4, h5⟩ := ob_inv he
      cases h5
      exact fin rfl (g_mkI hu (by intro ms hms; subst hms; exact hd ms rfl) (H x y v hy h4))
    · cases hc
  case makeFunc fn first capt =>
    cases fn with
    | func f =>
      unfold cop? at hc; dsimp only at hc
      split at hc
      · rename_i p q h1 h2
        cases hc
        obtain ⟨u, h3, h4⟩ := ob_inv he
        obtain ⟨v, h5, h6⟩ := ob_inv h4
        cases h6
        have g1 := H.list _ _ _ h1 h3
        have g2 := H.list _ _ _ h2 h5
        refine fin rfl ⟨.func (.func f) (first.map ρ') (capt.map ρ'), by simp [Instr.makeFunc], .func _ _ _ _ _ (by simpa using g1) (by simpa using g2)⟩
      · cases hc
    | _ => cases hc
  case slice t x lo hi mx =>
    unfold cop? at hc; dsimp only at hc
    cases mx with
    | some m => cases hc
    | none =>
      dsimp only at hc
      split at hc
      · rename_i y l m h1 h2 h3 h4
        cases hc
        obtain ⟨v, h5, h6⟩ := ob_inv he
        exact fin rfl (g_slS H h1 (H x y v h2 h5) h3 h4 h6)
      · rename_i e y l m h1 h2 h3 h4
        split at hc
        · rename_i n hn
          cases hc
          obtain ⟨v, h5, h6⟩ := ob_inv he
          exact fin rfl (g_slV H h1 hn (H x y v h2 h5) h3 h4 h6)
        · cases hc
      · cases hc
  case fieldAddr t x f =>
    unfold cop? at hc; dsimp only at hc
    split at hc
    · rename_i fs y h1 h2
      split at hc
      · rename_i fd hf
        split at hc
        · rename_i n hn
          cases hc
          obtain ⟨v, h5, h6⟩ := ob_inv he
          exact fin rfl (g_fadr h1 hf hn (H x y v h2 h5) h6)
        · cases hc
      · cases hc
    · cases hc
  case field t x f =>
    unfold cop? at hc; dsimp only at hc
    split at hc
    · rename_i fs y h1 h2
      split at hc
      · rename_i fd hf
        split at hc
        · rename_i n g hn hg
          cases hc
          obtain ⟨v, h5, h6⟩ := ob_inv he
          exact fin rfl (g_fld h1 hf hn hg (H x y v h2 h5) h6)
        · cases hc
      · cases hc
    · cases hc
  case indexAddr t x i =>
    unfold cop? at hc; dsimp only at hc
    split at hc
    · rename_i len e y z h1 h2 h3
      split at hc
      · rename_i n hn
        cases hc
        obtain ⟨v, h5, h6⟩ := ob_inv he
        obtain ⟨b, o, rfl, h7⟩ := onPtr_inv (v := v) h6
        obtain ⟨u, h8, h9⟩ := ob_inv h7
        exact fin rfl (g_iadrA h1 hn (H x y _ h2 h5) (H i z u h3 h8) h9)
      · cases hc
    · rename_i e y z h1 h2 h3
      split at hc
      · rename_i n hn
        cases hc
        obtain ⟨v, h5, h6⟩ := ob_inv he
        obtain ⟨b, o, m, q, rfl, h7⟩ := onSl_inv (v := v) h6
        obtain ⟨u, h8, h9⟩ := ob_inv h7
        exact fin rfl (g_iadrS h1 hn (H x y _ h2 h5) (H i z u h3 h8) h9)
      · cases hc
    · cases hc
  case index t x i =>
    unfold cop? at hc; dsimp only at hc
    split at hc
    · rename_i len e y z h1 h2 h3
      split at hc
      · rename_i n g hn hg
        cases hc
        obtain ⟨v, h5, h6⟩ := ob_inv he
        obtain ⟨l, rfl, h7⟩ := onAgg_inv (v := v) h6
        obtain ⟨u, h8, h9⟩ := ob_inv h7
        exact fin rfl (g_ixa h1 hn hg (H x y _ h2 h5) (H i z u h3 h8) h9)
      · cases hc
    · rename_i y z h1 h2 h3
      cases hc
      obtain ⟨v, h5, h6⟩ := ob_inv he
      obtain ⟨s, rfl, h7⟩ := onStr_inv (v := v) h6
      obtain ⟨u, h8, h9⟩ := ob_inv h7
      exact fin rfl (g_ixs h1 (H x y _ h2 h5) (H i z u h3 h8) h9)
    · cases hc
  case lookup t m k ok =>
    unfold cop? at hc; dsimp only at hc
    split at hc
    · rename_i kt et y z h1 h2 h3
      split at hc
      · rename_i e zz hk hz
        cases hc
        obtain ⟨u, v, h5, h6, h7⟩ := ob2_inv he
        exact fin rfl (g_lkp R h1 (kty_sound hk) hz (H m y u h2 h5) (H k z v h3 h6) h7)
      · cases hc
    · cases hc
  case typeAssert x xt t ok =>
    unfold cop? at hc; dsimp only at hc
    split at hc
    · cases hc
    · rename_i y d z hd hy hu hz
      cases hc
      obtain ⟨v, h4, h5⟩ := ob_inv he
      exact fin rfl (g_tas hu (by intro ms hms; subst hms; exact hd ms rfl) hz (H x y v hy h4) h5)
    · cases hc
  case extract x i =>
    unfold cop? at hc; dsimp only at hc
    split at hc
    · rename_i y hy
      cases hc
      obtain ⟨v, h4, h5⟩ := ob_inv he
      exact fin rfl (g_ext (H x y v hy h4) h5)
    · cases hc
  case call c =>
    unfold cop? at hc; dsimp only at hc
    obtain ⟨callee, args, ats⟩ := c
    cases callee with
    | builtin b =>
      have hb : cBuiltin P env b args.toList ats.toList = some (.q qo) := hc
      refine cBuiltin_sound (ty := ty) (cs := args.map fun | .const _ => true | _ => false) R H Hc hb he (fun s hs hg => ?_)
      obtain ⟨v, h1, h2⟩ := hg.next
      refine ⟨v, ?_, h2⟩
      simp only [execOp, resolve, Sem.run_bind, Sem.run_pure, Result.andThen_ok, invoke]
      exact (congrArg (fun z => Sem.run P z w) hs).trans h1
    | value f =>
      dsimp only at hc
      cases f <;> dsimp only at hc <;> (split at hc <;> cases hc)
    | invoke r m => dsimp only at hc; split at hc <;> cases hc
  case buildSlice t len parts =>
    exfalso
    unfold cop? at hc; dsimp only at hc
    split at hc
    · split at hc
      · split at hc
        · obtain ⟨_, hc⟩ := gd_inv hc
          obtain ⟨_, hc⟩ := gd_inv hc
          cases hc
        · cases hc
      · cases hc
    · cases hc
  case makeSlice t l c =>
    exfalso
    unfold cop? at hc; dsimp only at hc
    split at hc
    · split at hc
      · obtain ⟨_, hc⟩ := gd_inv hc
        cases hc
      · cases hc
    · cases hc
  case makeMap t r =>
    exfalso
    cases r with
    | none => cases hc
    | some x =>
      cases x with
      | const v =>
        cases v with
        | int k n =>
          unfold cop? at hc; dsimp only at hc
          split at hc <;> cases hc
        | _ => cases hc
      | _ => cases hc
  all_goals
    exfalso
    unfold cop? at hc; dsimp only at hc
    repeat' first
      | (cases hc; done)
      | split at hc
end

end Go.Ev
/-
  A small machine over closed data, eighteen: memory that grows and is written.
-/
namespace Go.Ev

section
variable {P : Program} {φ φ' : Map} {h h' : AHeap} {w w' : World}

theorem VarsR.mono {K : Nat → Bool} (hle : φ.le φ') {vars : T AV} {tmps : Array Value} (H : VarsR K φ vars tmps) : VarsR K φ' vars tmps := fun t v hv => ⟨(H t v hv).1, (H t v hv).2.mono hle⟩
theorem DefR.mono (hle : φ.le φ') {d : ADef} {e : Deferred} (H : DefR φ d e) : DefR φ' d e := by
  cases H with
  | fn f capt xs ca ys h k => exact .fn f capt xs ca ys (h.mono hle) (k.mono hle)
  | coll b L h => exact .coll b L (hle b L h)
theorem DefsR.mono (hle : φ.le φ') {d : List ADef} {e : List Deferred} (H : DefsR φ d e) : DefsR φ' d e := by
  induction d generalizing e with
  | nil => cases H; exact .nil
  | cons d ds ih => cases H with
    | cons _ e _ es h hs => exact .cons d e ds es (h.mono hle) (ih hs)
theorem LoopR.mono (hle : φ.le φ') {l : ALoop} {m : Loop} (H : LoopR P φ l m) : LoopR P φ' l m :=
  ⟨H.state, H.pending, H.fn, H.vars.mono hle, H.room, H.params, H.kept, H.assign, H.body, let ⟨L, a, b⟩ := H.defers; ⟨L, hle _ _ a, b⟩, H.known⟩
theorem EsR.mono (hle : φ.le φ') {es : List (AV × AV)} {fs : List MapEntry} (H : EsR φ es fs) : EsR φ' es fs := by
  induction es generalizing fs with
  | nil => cases H; exact .nil
  | cons p es ih => cases H with
    | cons k v e _ fs hk hv hs => exact .cons k v e es fs (hk.mono hle) (hv.mono hle) (ih hs)
theorem CellsR.mono (hle : φ.le φ') {x : AObj} {L : Loc} {c : Array Value} {lo hi : Nat} (H : CellsR φ x L c lo hi) : CellsR φ' x L c lo hi :=
  ⟨H.size, H.fits, fun i v hv => let ⟨u, a, b⟩ := H.cell i v hv; ⟨u, a, b.mono hle⟩, H.calm, H.warm⟩
theorem ObjR.mono (hle : φ.le φ') {x : AObj} {L : Loc} {o : Obj} (H : ObjR P φ x L o) : ObjR P φ' x L o := by
  cases H with
  | cells _ _ e c lo hi he h => exact .cells x L e c lo hi he (h.mono hle)
  | map es _ fs clock h hs => exact .map es L fs clock (h.mono hle) hs
  | loop l _ m h => exact .loop l L m (h.mono hle)
  | defd ds _ es h => exact .defd ds L es (h.mono hle)
  | taken => exact .taken L

/-- what a step leaves as it was -/
structure Grows (D : Pos → Prop) (φ φ' : Map) (h h' : AHeap) (w w' : World) : Prop where
  le : φ.le φ'
  size : w.heap.size ≤ w'.heap.size
  os : w'.os = w.os
  tape : w'.tape = w.tape
  output : w'.output = w.output
  keep : ∀ β, β < w.heap.size → (∀ b L, φ b = some L → L.blk ≠ β) → w'.heap[β]? = w.heap[β]?
  fresh : ∀ b L, φ' b = some L → φ b = none → L.blk < w.heap.size → ∃ c M, φ c = some M ∧ M.blk = L.blk
  pend : ∀ b o, D b → h.t.get b = some o → grpOf o = none → isGrp o = false → φ b = none → φ' b = none ∧ h'.t.get b = some o
  next : h.next.toNat ≤ h'.next.toNat

theorem Grows.refl (D : Pos → Prop) (φ : Map) (h : AHeap) (w : World) : Grows D φ φ h h w w :=
  ⟨φ.le_refl, Nat.le_refl _, rfl, rfl, rfl, fun _ _ _ => rfl, fun b L h1 h2 => (by rw [h1] at h2; cases h2), fun b o _ h1 _ _ h3 => ⟨h3, h1⟩, Nat.le_refl _⟩
theorem Grows.trans {D : Pos → Prop} {φ₂ : Map} {h₂ : AHeap} {w₂ : World} (A : Grows D φ φ' h h' w w') (B : Grows D φ' φ₂ h' h₂ w' w₂) : Grows D φ φ₂ h h₂ w w₂ where
  le := Map.le_trans A.le B.le
  size := Nat.le_trans A.size B.size
  os := B.os.trans A.os
  tape := B.tape.trans A.tape
  output := B.output.trans A.output
  keep := fun β hβ hno => by
    rw [B.keep β (Nat.lt_of_lt_of_le hβ A.size) ?_, A.keep β hβ hno]
    intro b L hb
    cases hφ : φ b with
    | some M => have := A.le b M hφ; rw [hb] at this; cases this; exact hno b L hφ
    | none =>
      intro he
      obtain ⟨c, M, h1, h2⟩ := A.fresh b L hb hφ (by omega)
      exact hno c M h1 (by omega)
  fresh := fun b L hb hn hs => by
    cases hφ' : φ' b with
    | none =>
      obtain ⟨c, M, h1, h2⟩ := B.fresh b L hb hφ' (Nat.lt_of_lt_of_le hs A.size)
      cases hφ : φ c with
      | some M' => have := A.le c M' hφ; rw [h1] at this; cases this; exact ⟨c, M, hφ, h2⟩
      | none =>
        obtain ⟨d, N, h3, h4⟩ := A.fresh c M h1 hφ (by omega)
        exact ⟨d, N, h3, by omega⟩
    | some M =>
      have := B.le b M hφ'
      rw [hb] at this; cases this
      exact A.fresh b L hφ' hn hs
  pend := fun b o h0 h1 h2 hi h3 => by
    obtain ⟨h4, h5⟩ := A.pend b o h0 h1 h2 hi h3
    exact B.pend b o h0 h5 h2 hi h4
  next := Nat.le_trans A.next B.next

theorem Rep.world (R : Rep P φ h w) (hw : w'.heap = w.heap) : Rep P φ h w' :=
  ⟨R.low, fun b L hL => by rw [hw]; exact R.dom b L hL, fun b o L h1 h2 => by rw [hw]; exact R.obj b o L h1 h2, R.grp, R.alone, R.listed, R.member⟩
theorem Grows.drawn (D : Pos → Prop) (φ : Map) (h : AHeap) (w : World) (n : Nat) : Grows D φ φ h h w { w with drawn := n } :=
  ⟨φ.le_refl, Nat.le_refl _, rfl, rfl, rfl, fun _ _ _ => rfl, fun b L h1 h2 => (by rw [h1] at h2; cases h2), fun b o _ h1 _ _ h3 => ⟨h3, h1⟩, Nat.le_refl _⟩

theorem new_t (h : AHeap) (o : AObj) : (new h o).t = h.t.set o h.next := by
  obtain ⟨t, n⟩ := h; exact congrArg AHeap.t (fP_eq n.succ (fun q => (⟨t.set o n, q⟩ : AHeap)))
theorem new_next (h : AHeap) (o : AObj) : (new h o).next = h.next.succ := by
  obtain ⟨t, n⟩ := h; exact congrArg AHeap.next (fP_eq n.succ (fun q => (⟨t.set o n, q⟩ : AHeap)))
theorem nextOf_eq (h : AHeap) : nextOf h = h.next := by cases h; rfl

/-- a block that the model has not made yet -/
theorem Rep.pend (R : Rep P φ h w) {o : AObj} (hg : grpOf o = none) (hi : isGrp o = false) (D : Pos → Prop) : Rep P φ (new h o) w ∧ Grows D φ φ h (new h o) w w ∧ (new h o).t.get h.next = some o ∧ φ h.next = none ∧ h.t.get h.next = none := by
  have hno : φ h.next = none := by
    cases hφ : φ h.next with
    | none => rfl
    | some L => have := (R.dom _ L hφ).1; omega
  have hnt : h.t.get h.next = none := by
    cases ht : h.t.get h.next with
    | none => rfl
    | some x => have := R.low _ x ht; omega
  have hget : ∀ b, (new h o).t.get b = if h.next = b then some o else h.t.get b := fun b => by rw [new_t, T.get_set]
  have hold : ∀ b x, h.t.get b = some x → (new h o).t.get b = some x := by
    intro b x hb
    rw [hget, if_neg]
    · exact hb
    · rintro rfl; rw [hnt] at hb; cases hb
  refine ⟨⟨?_, ?_, ?_, ?_, ?_, ?_, ?_⟩, ⟨φ.le_refl, Nat.le_refl _, rfl, rfl, rfl, fun _ _ _ => rfl, fun b L h1 h2 => (by rw [h1] at h2; cases h2), ?_, ?_⟩, by rw [hget, if_pos rfl], hno, hnt⟩
  · intro b x hb
    rw [new_next, Pos.toNat_succ]
    rw [hget] at hb
    split at hb
    · rename_i he; subst he; omega
    · have := R.low b x hb; omega
  · intro b L hb
    have := R.dom b L hb
    rw [new_next, Pos.toNat_succ]
    exact ⟨by omega, this.2⟩
  · intro b x L hb hL
    rw [hget] at hb
    split at hb
    · rename_i he; subst he; rw [hno] at hL; cases hL
    · exact R.obj b x L hb hL
  · intro b x hb hx
    rw [hget] at hb
    split at hb
    · cases hb; rw [hi] at hx; cases hx
    · exact R.grp b x hb hx
  · intro b c x y L M hb hc hL hM he
    rw [hget] at hb hc
    split at hb
    · rename_i hbn; subst hbn; rw [hno] at hL; cases hL
    · split at hc
      · rename_i hcn; subst hcn; rw [hno] at hM; cases hM
      · exact R.alone b c x y L M hb hc hL hM he
  · intro g l b hgl hbl
    rw [hget] at hgl
    split at hgl
    · cases hgl; cases hi
    · obtain ⟨h1, h2⟩ := R.listed g l b hgl hbl
      refine ⟨by rw [new_next, Pos.toNat_succ]; omega, fun x hb => ?_⟩
      rw [hget] at hb
      split at hb
      · rename_i he; subst he; omega
      · exact h2 x hb
  · intro b x g hb hx
    rw [hget] at hb
    split at hb
    · cases hb; rw [hg] at hx; cases hx
    · obtain ⟨l, h1, h2⟩ := R.member b x g hb hx
      exact ⟨l, hold _ _ h1, h2⟩
  · intro b x _ hb _ _ hn
    exact ⟨hn, hold _ _ hb⟩
  · rw [new_next, Pos.toNat_succ]; omega

/-- a place for one block more -/
noncomputable def Map.put (φ : Map) (b : Pos) (L : Loc) : Map := fun c => if peq b c then some L else φ c
theorem Map.put_same (φ : Map) (b : Pos) (L : Loc) : φ.put b L b = some L := by
  unfold Map.put; rw [(peq_iff b b).mpr rfl]; rfl
theorem Map.put_other (φ : Map) {b c : Pos} (L : Loc) (hne : b ≠ c) : φ.put b L c = φ c := by
  unfold Map.put; rw [show peq b c = false by rw [← Bool.not_eq_true, peq_iff]; exact hne]; rfl
theorem Map.le_put (φ : Map) (b : Pos) (L : Loc) (hb : φ b = none) : φ.le (φ.put b L) := by
  intro c M hc
  by_cases he : b = c
  · subst he; rw [hb] at hc; cases hc
  · rw [φ.put_other L he]; exact hc

theorem getElem_push_lt {α : Type} (a : Array α) (x : α) (i : Nat) (hi : i < a.size) : (a.push x)[i]? = a[i]? := by
  rw [Array.getElem?_push]; rw [if_neg (by omega)]
/-- the model makes the block -/
theorem Rep.realize (R : Rep P φ h w) {b : Pos} {o : AObj} {x : Obj} {L : Loc} (hb : h.t.get b = some o) (hn : φ b = none) (hi : isGrp o = false) (hL : L.blk = w.heap.size)
    (ho : ObjR P (φ.put b L) o L x) (hw : w'.heap = w.heap.push x) : Rep P (φ.put b L) h w' := by
  have hle := φ.le_put b L hn
  refine ⟨R.low, ?_, ?_, ?_, ?_, R.listed, R.member⟩
  · intro c M hc
    rw [hw]; simp only [Array.size_push]
    by_cases he : b = c
    · subst he
      rw [φ.put_same] at hc; cases hc
      exact ⟨R.low _ _ hb, by omega⟩
    · rw [φ.put_other L he] at hc
      have := R.dom c M hc
      exact ⟨this.1, by omega⟩
  · intro c y M hc hM
    by_cases he : b = c
    · subst he
      rw [φ.put_same] at hM; cases hM
      rw [hb] at hc; cases hc
      exact ⟨x, by rw [hw, hL]; simp, ho⟩
    · rw [φ.put_other L he] at hM
      obtain ⟨z, h1, h2⟩ := R.obj c y M hc hM
      refine ⟨z, ?_, h2.mono hle⟩
      rw [hw, getElem_push_lt _ _ _ (R.dom c M hM).2]; exact h1
  · intro c y hc hy
    by_cases he : b = c
    · subst he; rw [hb] at hc; cases hc; rw [hi] at hy; cases hy
    · rw [φ.put_other L he]; exact R.grp c y hc hy
  · intro c d y z M N hc hd hM hN he
    by_cases h1 : b = c
    · subst h1
      by_cases h2 : b = d
      · exact .inl h2
      · rw [φ.put_same] at hM; cases hM
        rw [φ.put_other L h2] at hN
        have := (R.dom d N hN).2; omega
    · rw [φ.put_other L h1] at hM
      by_cases h2 : b = d
      · subst h2
        rw [φ.put_same] at hN; cases hN
        have := (R.dom c M hM).2; omega
      · rw [φ.put_other L h2] at hN
        exact R.alone c d y z M N hc hd hM hN he
theorem Grows.realize {D : Pos → Prop} {b : Pos} {L : Loc} {x : Obj} (hn : φ b = none) (hL : L.blk = w.heap.size) (hw : w'.heap = w.heap.push x) (ho : w'.os = w.os) (ht : w'.tape = w.tape) (hp : w'.output = w.output)
    (hb : ¬ D b) : Grows D φ (φ.put b L) h h w w' where
  le := φ.le_put b L hn
  size := by rw [hw]; simp
  os := ho
  tape := ht
  output := hp
  keep := fun β hβ _ => by rw [hw, getElem_push_lt _ _ _ hβ]
  fresh := fun c M hc hcn hs => by
    by_cases he : b = c
    · subst he; rw [φ.put_same] at hc; cases hc; omega
    · rw [φ.put_other L he, hcn] at hc; cases hc
  pend := fun c o hd hc _ _ hcn => by
    refine ⟨?_, hc⟩
    by_cases he : b = c
    · subst he; exact absurd hd hb
    · rw [φ.put_other L he]; exact hcn
  next := Nat.le_refl _
end

end Go.Ev
/-
  A small machine over closed data, nineteen: what makes memory.
-/
namespace Go.Ev

section
variable {P : Program} {φ : Map} {h : AHeap} {w : World}
variable {env : List (Option Tmp)} {ρ : Opd → Option AV} {ρ' : Operand → Value}

theorem known_ne {v : AV} (hk : known v = true) : v ≠ .un := by intro he; subst he; cases hk

theorem rep_get (l : List AV) : ∀ (n i : Nat), (rep l n).length = n * l.length ∧ (i < n * l.length → (rep l n)[i]? = l[i % l.length]?) := by
  intro n
  induction n with
  | zero => intro i; exact ⟨by simp [rep], fun hi => by omega⟩
  | succ n ih =>
    intro i
    have e1 : (n + 1) * l.length = l.length + n * l.length := by rw [Nat.add_mul]; omega
    refine ⟨by simp only [rep, List.length_append, (ih 0).1]; omega, fun hi => ?_⟩
    simp only [rep]
    by_cases hl : i < l.length
    · rw [List.getElem?_append_left hl, Nat.mod_eq_of_lt hl]
    · rw [List.getElem?_append_right (by omega), (ih (i - l.length)).2 (by omega)]
      congr 1
      exact (Nat.mod_eq_sub_mod (by omega)).symm

/-- the cells of a variable, made of a list -/
theorem smallR {e : TypeId} {l : List AV} {c : Array Value} {β : Nat} (hl : VRs φ l c.toList) : ObjR P φ (.small e l) ⟨β, 0, c.size⟩ (.cells c e (0, 0)) := by
  have hs : l.length = c.size := by rw [hl.length]; simp
  refine .cells _ _ e c 0 0 rfl ⟨rfl, by simp [sizeOf, hs], ?_, fun _ => ⟨rfl, rfl, rfl, hs⟩, fun _ => .inl rfl⟩
  intro i v hv
  have hv : nth l i = some v := hv
  rw [nth_eq] at hv
  obtain ⟨u, h1, h2⟩ := hl.get i hv
  rw [Array.getElem?_toList] at h1
  exact ⟨u, by simpa using h1, h2⟩

/-- what is made, in whatever map -/
noncomputable def Makes (P : Program) (φ : Map) (w : World) (s : Sem Next) (p : Pos) (x : AObj) (a : AV) : Prop :=
  ∃ o v csz, s.run P w = .ok (.value v) { w with heap := w.heap.push o } ∧ grpOf x = none ∧ isGrp x = false ∧
    ∀ φ' : Map, φ.le φ' → φ' p = some ⟨w.heap.size, 0, csz⟩ → ObjR P φ' x ⟨w.heap.size, 0, csz⟩ o ∧ VR φ' a v

theorem zero_cells {t : TypeId} {z : AV} (hz : zeroT P t = some z) : ∃ i v, P.info? t = some i ∧ i.zero = some v ∧ VRs φ (cells z) v.cells.toList := by
  obtain ⟨i, v, hi, hv, hr, hk⟩ := zeroT_inv (φ := φ) hz
  exact ⟨i, v, hi, hv, hr.cells (absV_known hk)⟩

theorem m_alc {t : TypeId} {z : AV} {p : Pos} (hz : zeroT P t = some z) : Makes P φ w (do pure (Next.value (← Instr.alloc t true (.tuple #[])))) p (.small t (cells z)) (.ptr p 0) := by
  obtain ⟨i, v, hi, hv, hr⟩ := zero_cells (φ := φ) hz
  refine ⟨.cells v.cells t (0, 0), .pointer (some ⟨w.heap.size, 0, none⟩), v.cells.size, ?_, rfl, rfl, fun φ' hle hp => ⟨smallR (hr.mono hle), .ptr p 0 _ hp⟩⟩
  simp [Instr.alloc, zeroValue, typeInfo, hi, hv, newVar, newRow]
theorem m_box {t : TypeId} {x : Value} {a : AV} {p : Pos} (hx : VR φ a x) (hk : known a = true) : Makes P φ w (do pure (Next.value (← Instr.box t x))) p (.small t (cells a)) (.ptr p 0) := by
  refine ⟨.cells x.cells t (0, 0), .pointer (some ⟨w.heap.size, 0, none⟩), x.cells.size, ?_, rfl, rfl, fun φ' hle hp => ⟨smallR ((hx.cells (known_ne hk)).mono hle), .ptr p 0 _ hp⟩⟩
  simp [Instr.box, newVar, newRow]
theorem m_mkm {t : TypeId} {r : Option Value} {p : Pos} (hr : r = none ∨ ∃ k n d e, r = some (.int k n) ∧ P.underlying t = some (.map d e)) : Makes P φ w (do pure (Next.value (← Instr.makeMap t r))) p (.map []) (.map p) := by
  refine ⟨.map #[] 0, .map (some w.heap.size), 0, ?_, rfl, rfl, fun φ' hle hp => ⟨.map [] _ #[] 0 .nil (fun _ => MapKept.stamped_empty 0), .map p _ hp⟩⟩
  rcases hr with rfl | ⟨k, n, d, e, rfl, hu⟩
  · simp [Instr.makeMap]
  · simp [Instr.makeMap, run_underlying hu, asInt, asIntOf]

theorem bsl_cells {z : AV} {v : Value} {len n : Nat} (hr : VRs φ (cells z) v.cells.toList) (hn : Ev.len (cells z) = n) :
    VRs φ (rep (cells z) len) ((Array.range (len * n)).map fun i => (if len * n = 0 then (#[] : Array Value) else v.cells)[i % (if len * n = 0 then (#[] : Array Value) else v.cells).size]!).toList := by
  have hl : (cells z).length = n := by rw [← len_eq]; exact hn
  have hs : v.cells.size = n := by rw [← hl, hr.length]; simp
  refine VRs.of_get ?_ fun i a b ha hb => ?_
  · rw [(rep_get (cells z) len 0).1, hl]; simp
  · have hi : i < len * n := by
      have := (List.getElem?_eq_some_iff.mp ha).1
      rw [(rep_get (cells z) len 0).1, hl] at this; exact this
    have h0 : len * n ≠ 0 := by omega
    rw [((rep_get (cells z) len i).2 (by rw [hl]; exact hi)), hl] at ha
    obtain ⟨u, h1, h2⟩ := hr.get _ ha
    rw [Array.getElem?_toList] at h1 hb
    simp only [if_neg h0, Array.getElem?_map, hs] at hb
    rw [Array.getElem?_range, if_pos hi] at hb
    simp only [Option.map_some, Option.some.injEq] at hb
    rw [getElem!_def, h1] at hb
    subst hb; exact h2
theorem m_bsl (H : OpdR φ env ρ ρ') {t e : TypeId} {len n : Nat} {parts : Array (Nat × Operand)} {ps : List (Nat × Nat × Opd)} {z : AV} {l : List AV} {p : Pos} (hz : zeroT P e = some z) (hu : P.underlying t = some (.slice e))
    (hn : szT P e = some n) (hc : cparts env (fun i => some (i * n, n)) parts.toList = some ps) (hb : len * n ≤ 4096) (hzn : Ev.len (cells z) = n) (he : fillp ρ ps (rep (cells z) len) = some l) :
    Makes P φ w (do pure (Next.value (← Instr.buildSlice t len (parts.map fun (i, x) => (i, ρ' x))))) p (.small e l) (.sl p 0 len n) := by
  obtain ⟨i, v, hi, hv, hr⟩ := zero_cells (φ := φ) hz
  obtain ⟨ds, h3, h4⟩ := fill_sound H parts.toList ps _ l _ hc (bsl_cells (len := len) hr hzn) he
  have hsz : ds.size = len * n := by
    have hl : (cells z).length = n := by rw [← len_eq]; exact hzn
    have h5 : ∀ (q : List (Nat × Nat × Opd)) (a b : List AV), fillp ρ q a = some b → b.length = a.length := by
      intro q
      induction q with
      | nil => intro a b hab; cases (show some a = some b from hab); rfl
      | cons x q ih =>
        intro a b hab
        rw [fillp_cons] at hab
        obtain ⟨c, g1, g2⟩ := ob_inv hab
        obtain ⟨u, g3, g4⟩ := ob_inv g1
        obtain ⟨_, g5⟩ := gd_inv g4
        obtain ⟨_, g6⟩ := gd_inv g5
        rw [ih c b g2]
        by_cases h0 : x.2.1 = 0
        · have g6 : bi (Nat.beq x.2.1 0) (gd (Nat.ble x.1 (Ev.len a)) (some a)) _ = some c := g6
          rw [h0] at g6
          obtain ⟨_, g7⟩ := gd_inv (b := Nat.ble x.1 (Ev.len a)) g6
          cases g7; rfl
        · have g6 : bi (Nat.beq x.2.1 0) _ (putO a x.1 (cells u)) = some c := g6
          rw [show Nat.beq x.2.1 0 = false by rw [← Bool.not_eq_true, Nat.beq_eq]; exact h0, bi_false] at g6
          exact (putO_eq _ _ _ _ g6).2.1
    have h6 := h5 _ _ _ he
    rw [h4.length, (rep_get (cells z) len 0).1, hl] at h6
    simpa using h6
  refine ⟨.cells ds e (0, 0), .slice (some ⟨w.heap.size, 0, none⟩) len len, ds.size, ?_, rfl, rfl, fun φ' hle hp => ⟨smallR (h4.mono hle), ?_⟩⟩
  · have hnot : ¬ (len * n > 2 ^ 24) := by omega
    have h3' : Instr.fill (fun i => some (i * n, n)) ((Array.range (len * n)).map fun i => (if len * n = 0 then (#[] : Array Value) else v.cells)[i % (if len * n = 0 then (#[] : Array Value) else v.cells).size]!) (parts.map fun (i, x) => (i, ρ' x)).toList = some ds := by
      rw [← h3]; congr 1; simp
    by_cases h0 : len * n = 0
    · simp only [if_pos h0] at h3'
      simp only [Instr.buildSlice, Sem.run_bind, run_underlying hu, Result.andThen_ok, run_sizeOf hn, if_neg hnot, Sem.run_pure, if_pos h0, h3', newRow, run_newObj]
    · simp only [if_neg h0] at h3'
      simp only [Instr.buildSlice, Sem.run_bind, run_underlying hu, Result.andThen_ok, run_sizeOf hn, if_neg hnot, Sem.run_pure, if_neg h0, zeroValue, typeInfo, run_program, hi, hv, h3', newRow, run_newObj]
  · exact .sl p 0 len n len _ hp (Nat.le_refl _) (by simp [hsz])

theorem cEq_m (neg : Bool) {t : TypeId} {cx : Bool} {a b : Opd} {mo : MOp} (hc : cEq P neg t cx a b = some (.m mo)) : False := by
  unfold cEq at hc
  split at hc
  all_goals first
    | (cases hc; done)
    | (split at hc <;> first
        | (cases hc; done))
    | (cases hm : (‹Array (String × TypeId)›.isEmpty || cx) <;> rw [hm] at hc <;> cases hc; done)
    | (cases hg : P.eqGuardType P.depth t <;> rw [hg] at hc <;> simp only [cond_false, cond_true] at hc <;> first
        | (cases hc; done)
        | (split at hc <;> first
          | (cases hc; done)))

theorem evm_sound (H : OpdR φ env ρ ρ') (Hk : ∀ v, ρ' (.const v) = v) {o : Oper} {mo : MOp} {p : Pos} {x : AObj} {a : AV} (hc : cop? P env o = some (.m mo)) (he : evm mo ρ p = some (x, a)) : Makes P φ w (execOp ρ' o) p x a := by
  obtain ⟨dst, op, ty, ps, af, gd'⟩ := o
  cases op
  case alloc t =>
    unfold cop? at hc; dsimp only at hc
    split at hc
    · rename_i z hz; cases hc; cases he; exact m_alc hz
    · cases hc
  case box t y =>
    unfold cop? at hc; dsimp only at hc
    split at hc
    · rename_i q hq
      cases hc
      obtain ⟨v, h1, h2⟩ := ob_inv he
      obtain ⟨h3, h4⟩ := gd_inv (b := known v) h2
      cases h4
      exact m_box (H y q v hq h1) h3
    · cases hc
  case buildSlice t len parts =>
    unfold cop? at hc; dsimp only at hc
    split at hc
    · rename_i e hu
      split at hc
      · rename_i n z hn hz
        split at hc
        · rename_i q hq
          obtain ⟨h1, hc⟩ := gd_inv hc
          obtain ⟨h2, hc⟩ := gd_inv hc
          cases hc
          obtain ⟨l, h3, h4⟩ := ob_inv he
          cases h4
          exact m_bsl H hz hu hn hq (Nat.ble_eq.mp h1) (Nat.eq_of_beq_eq_true h2) h3
        · cases hc
      · cases hc
    · cases hc
  case makeMap t r =>
    cases r with
    | none => cases hc; cases he; exact m_mkm (.inl rfl)
    | some y =>
      cases y with
      | const v =>
        cases v with
        | int k n =>
          unfold cop? at hc; dsimp only at hc
          split at hc
          · rename_i d e hu
            cases hc; cases he
            exact m_mkm (.inr ⟨k, n, d, e, congrArg some (Hk _), hu⟩)
          · cases hc
        | _ => cases hc
      | _ => cases hc
  case makeSlice t l c =>
    exfalso
    unfold cop? at hc; dsimp only at hc
    split at hc
    · split at hc
      · obtain ⟨_, hc⟩ := gd_inv hc
        cases hc
      · cases hc
    · cases hc
  case binOp op t x y yt =>
    exfalso
    unfold cop? at hc; dsimp only at hc
    unfold cBin at hc
    split at hc
    · cases op <;> first
        | (cases hc; done)
        | exact cEq_m _ hc
    · cases hc
  case convert s d y =>
    exfalso
    unfold cop? at hc; dsimp only at hc
    unfold cConv at hc
    split at hc <;> first
      | (cases hc; done)
      | (split at hc <;> cases hc)
  case makeFunc fn first capt =>
    exfalso
    cases fn with
    | func f =>
      unfold cop? at hc; dsimp only at hc
      split at hc <;> cases hc
    | _ => cases hc
  case slice t y lo hi mx =>
    exfalso
    unfold cop? at hc; dsimp only at hc
    cases mx with
    | some m => cases hc
    | none =>
      dsimp only at hc
      split at hc
      · cases hc
      · split at hc <;> cases hc
      · cases hc
  case call c =>
    exfalso
    unfold cop? at hc; dsimp only at hc
    obtain ⟨callee, args, ats⟩ := c
    cases callee with
    | builtin b =>
      dsimp only at hc
      unfold cBuiltin at hc
      split at hc <;> repeat' first
        | (cases hc; done)
        | split at hc
    | value f =>
      dsimp only at hc
      cases f <;> dsimp only at hc <;> (split at hc <;> cases hc)
    | invoke r m => dsimp only at hc; split at hc <;> cases hc
  all_goals
    exfalso
    unfold cop? at hc; dsimp only at hc
    repeat' first
      | (cases hc; done)
      | split at hc
end

end Go.Ev
/-
  A small machine over closed data, twenty: what is written.
-/
namespace Go.Ev

theorem delP_get (p : Pos) : ∀ (l : List Pos) (t : T AObj), (delP t l).get p = if p ∈ l then none else t.get p := by
  intro l
  induction l with
  | nil => intro t; simp [delP]
  | cons q l ih =>
    intro t
    simp only [delP]
    rw [ih, T.get_del]
    by_cases h : p ∈ l
    · simp [h]
    · by_cases h2 : q = p
      · subst h2; simp
      · simp [h, h2, Ne.symm h2]

section
variable {P : Program} {φ : Map} {h : AHeap} {w w' : World}

theorem alone_none {x : AObj} {t : T AObj} (hx : grpOf x = none) : alone x t = t := by
  cases x with
  | big e fz n z u g => cases g with
    | none => rfl
    | some g => cases hx
  | _ => rfl
theorem alone_some {x : AObj} {t : T AObj} {g : Pos} {l : List Pos} (hx : grpOf x = some g) (hg : t.get g = some (.grp l)) : alone x t = delP (t.del g) l := by
  cases x with
  | big e fz n z u g' =>
    cases g' with
    | none => cases hx
    | some g' =>
      cases hx
      show orE (t.get g) t _ = _
      rw [hg]; rfl
  | _ => cases hx

theorem Rep.alone_get (R : Rep P φ h w) {b c : Pos} {x z : AObj} (hb : h.t.get b = some x) :
    (Ev.alone x h.t).get c = some z ↔ h.t.get c = some z ∧ ∀ g, grpOf x = some g → grpOf z ≠ some g ∧ c ≠ g := by
  cases hx : grpOf x with
  | none => rw [alone_none hx]; simp
  | some g =>
    obtain ⟨l, h1, h2⟩ := R.member b x g hb hx
    rw [alone_some hx h1, delP_get, T.get_del]
    constructor
    · intro hc
      split at hc
      · cases hc
      · rename_i hcl
        split at hc
        · cases hc
        · rename_i hgc
          refine ⟨hc, fun g' hg' => ?_⟩
          cases hg'
          refine ⟨fun hz => ?_, Ne.symm hgc⟩
          obtain ⟨l', h3, h4⟩ := R.member c z g hc hz
          rw [h1] at h3; cases h3
          exact hcl h4
    · intro ⟨hc, hn⟩
      obtain ⟨h3, h4⟩ := hn g rfl
      rw [if_neg, if_neg (Ne.symm h4), hc]
      intro hcl
      exact h3 ((R.listed g l c h1 hcl).2 z hc)

theorem obj_notgrp (R : Rep P φ h w) {b : Pos} {x : AObj} {L : Loc} (hb : h.t.get b = some x) (hL : φ b = some L) : isGrp x = false := by
  cases hx : isGrp x with
  | false => rfl
  | true => have := R.grp b x hb hx; rw [hL] at this; cases this

theorem Rep.write (R : Rep P φ h w) {b : Pos} {x y : AObj} {L : Loc} {o : Obj} (hb : h.t.get b = some x) (hL : φ b = some L) (hg : grpOf y = none) (hi : isGrp y = false) (hy : ObjR P φ y L o)
    (hw : w'.heap = w.heap.setIfInBounds L.blk o) : Rep P φ ⟨(Ev.alone x h.t).set y b, h.next⟩ w' := by
  have hget : ∀ c z, ((Ev.alone x h.t).set y b).get c = some z → (c = b ∧ z = y) ∨ (c ≠ b ∧ h.t.get c = some z ∧ ∀ g, grpOf x = some g → grpOf z ≠ some g ∧ c ≠ g) := by
    intro c z hc
    rw [T.get_set] at hc
    split at hc
    · rename_i he; cases hc; exact .inl ⟨he.symm, rfl⟩
    · rename_i he; exact .inr ⟨Ne.symm he, (R.alone_get hb).mp hc⟩
  have hin : L.blk < w.heap.size := (R.dom b L hL).2
  refine ⟨?_, ?_, ?_, ?_, ?_, ?_, ?_⟩
  · intro c z hc
    rcases hget c z hc with ⟨rfl, rfl⟩ | ⟨_, hc, _⟩
    · exact R.low _ _ hb
    · exact R.low _ _ hc
  · intro c M hM
    have := R.dom c M hM
    rw [hw]; simpa using this
  · intro c z M hc hM
    rw [hw]
    rcases hget c z hc with ⟨rfl, rfl⟩ | ⟨hne, hc, hn⟩
    · rw [hL] at hM; cases hM
      exact ⟨o, by rw [Array.getElem?_setIfInBounds_self_of_lt hin], hy⟩
    · obtain ⟨u, h1, h2⟩ := R.obj c z M hc hM
      refine ⟨u, ?_, h2⟩
      rw [Array.getElem?_setIfInBounds_ne, h1]
      intro he
      rcases R.alone b c x z L M hb hc hL hM he with h3 | ⟨g, h3, h4, _⟩
      · exact hne h3.symm
      · exact (hn g h3).1 h4
  · intro c z hc hz
    rcases hget c z hc with ⟨rfl, rfl⟩ | ⟨_, hc, _⟩
    · rw [hi] at hz; cases hz
    · exact R.grp c z hc hz
  · intro c d y1 z M N hc hd hM hN he
    rcases hget c y1 hc with ⟨rfl, rfl⟩ | ⟨hne, hc1, hn⟩
    · rcases hget d z hd with ⟨rfl, rfl⟩ | ⟨hne2, hd1, hn2⟩
      · exact .inl rfl
      · rw [hL] at hM; cases hM
        rcases R.alone c d x z L N hb hd1 hL hN he with h3 | ⟨g, h3, h4, _⟩
        · exact .inl h3
        · exact absurd h4 (hn2 g h3).1
    · rcases hget d z hd with ⟨rfl, rfl⟩ | ⟨hne2, hd1, hn2⟩
      · rw [hL] at hN; cases hN
        rcases R.alone d c x y1 L M hb hc1 hL hM he.symm with h3 | ⟨g, h3, h4, _⟩
        · exact .inl h3.symm
        · exact absurd h4 (hn g h3).1
      · exact R.alone c d y1 z M N hc1 hd1 hM hN he
  · intro g l c hgl hcl
    rcases hget g _ hgl with ⟨rfl, rfl⟩ | ⟨hne, hgl, hn⟩
    · cases hi
    · obtain ⟨h1, h2⟩ := R.listed g l c hgl hcl
      refine ⟨h1, fun z hc => ?_⟩
      rcases hget c z hc with ⟨rfl, rfl⟩ | ⟨_, hc, _⟩
      · exact absurd rfl (hn g (h2 x hb)).2
      · exact h2 z hc
  · intro c z g hc hz
    rcases hget c z hc with ⟨rfl, rfl⟩ | ⟨hne, hc, hn⟩
    · rw [hg] at hz; cases hz
    · obtain ⟨l, h1, h2⟩ := R.member c z g hc hz
      refine ⟨l, ?_, h2⟩
      rw [T.get_set, if_neg]
      · refine (R.alone_get hb).mpr ⟨h1, fun g' hg' => ⟨(by intro h3; cases h3), ?_⟩⟩
        rintro rfl
        exact (hn g hg').1 hz
      · rintro rfl
        have := obj_notgrp R hb hL
        rw [h1] at hb; cases hb; cases this
theorem Rep.written (R : Rep P φ h w) (D : Pos → Prop) {b : Pos} {x y : AObj} {L : Loc} {o : Obj} (hb : h.t.get b = some x) (hL : φ b = some L)
    (hw : w'.heap = w.heap.setIfInBounds L.blk o) (ho : w'.os = w.os) (ht : w'.tape = w.tape) (hp : w'.output = w.output) : Grows D φ φ h ⟨(Ev.alone x h.t).set y b, h.next⟩ w w' where
  le := φ.le_refl
  size := by rw [hw]; simp
  os := ho
  tape := ht
  output := hp
  keep := fun β _ hno => by rw [hw, Array.getElem?_setIfInBounds_ne (hno b L hL)]
  fresh := fun c M h1 h2 => by rw [h1] at h2; cases h2
  pend := fun c z _ hc hz hi hn => by
    refine ⟨hn, ?_⟩
    rw [T.get_set, if_neg (by rintro rfl; rw [hL] at hn; cases hn)]
    refine (R.alone_get hb).mpr ⟨hc, fun g hg => ⟨(by rw [hz]; intro h; cases h), ?_⟩⟩
    rintro rfl
    obtain ⟨l, h1, _⟩ := R.member b x c hb hg
    rw [h1] at hc; cases hc; cases hi
  next := Nat.le_refl _

/-- writing cells -/
theorem run_sto {β o : Nat} {e : TypeId} {fz : Nat × Nat} : ∀ (vs : List Value) (i : Nat) (c : Array Value) (w : World), w.heap[β]? = some (.cells c e fz) → (∀ j, j < vs.length → o + i + j < c.size ∧ ¬ (fz.1 ≤ o + i + j ∧ o + i + j < fz.2)) →
    (∀ v ∈ vs, v.oneCell' = true) → ∃ c' : Array Value, (storeCells ⟨β, o, none⟩ vs i).run P w = .ok () { w with heap := w.heap.setIfInBounds β (.cells c' e fz) } ∧ c'.size = c.size ∧
      ∀ k, c'[k]? = if o + i ≤ k ∧ k < o + i + vs.length then vs[k - (o + i)]? else c[k]? := by
  intro vs
  induction vs with
  | nil =>
    intro i c w hw _ _
    refine ⟨c, ?_, rfl, fun k => by rw [if_neg (by simp)]⟩
    have : w.heap.setIfInBounds β (.cells c e fz) = w.heap := by
      apply Array.ext_getElem?
      intro k
      by_cases hk : β = k
      · subst hk
        have hlt : β < w.heap.size := (Array.getElem?_eq_some_iff.mp hw).1
        rw [Array.getElem?_setIfInBounds_self_of_lt hlt, hw]
      · rw [Array.getElem?_setIfInBounds_ne hk]
    rw [this]; rfl
  | cons v vs ih =>
    intro i c w hw hj h1
    obtain ⟨h2, h3⟩ := hj 0 (by simp)
    rw [Nat.add_zero] at h2 h3
    have hlt : β < w.heap.size := (Array.getElem?_eq_some_iff.mp hw).1
    have hc : w.cell? ⟨β, o + i, none⟩ = some c[o + i] := by rw [cell?_of (e := e) (fz := fz) hw]; exact Array.getElem?_eq_getElem h2
    have hf : w.frozen? ⟨β, o + i, none⟩ = false := by
      obtain ⟨lo, hi⟩ := fz
      simp only [World.frozen?, hw]
      simpa using h3
    have hs : w.setCell ⟨β, o + i, none⟩ v = { w with heap := w.heap.setIfInBounds β (.cells (c.setIfInBounds (o + i) v) e fz) } := by
      simp only [World.setCell]
      congr 1
      apply Array.ext_getElem?
      intro k
      rw [Array.getElem?_modify]
      by_cases hk : β = k
      · subst hk; rw [if_pos rfl, hw, Array.getElem?_setIfInBounds_self_of_lt hlt]; rfl
      · rw [if_neg hk, Array.getElem?_setIfInBounds_ne hk]
    obtain ⟨c', h4, h5, h6⟩ := ih (i + 1) (c.setIfInBounds (o + i) v) { w with heap := w.heap.setIfInBounds β (.cells (c.setIfInBounds (o + i) v) e fz) } (Array.getElem?_setIfInBounds_self_of_lt hlt)
      (fun j hj' => by
        obtain ⟨g1, g2⟩ := hj (j + 1) (by simpa using hj')
        rw [Array.size_setIfInBounds]
        rw [show o + (i + 1) + j = o + i + (j + 1) by omega]
        exact ⟨g1, g2⟩) (fun u hu => h1 u (by simp [hu]))
    refine ⟨c', ?_, by simpa using h5, fun k => ?_⟩
    · simp only [storeCells, Sem.run_bind, addr_add, run_store _ _ _ _ _ (h1 v (by simp)), hc, hf, Bool.false_eq_true, if_false, hs, Result.andThen_ok]
      rw [h4]
      simp [Array.setIfInBounds_setIfInBounds]
    · rw [h6]
      simp only [List.length_cons]
      by_cases hk : k = o + i
      · subst hk
        rw [if_neg (by omega), if_pos (by omega), Array.getElem?_setIfInBounds_self_of_lt h2]; simp
      · by_cases hk2 : o + (i + 1) ≤ k ∧ k < o + (i + 1) + vs.length
        · rw [if_pos hk2, if_pos (by omega), show k - (o + i) = (k - (o + (i + 1))) + 1 by omega, List.getElem?_cons_succ]
        · rw [if_neg hk2, if_neg (by omega), Array.getElem?_setIfInBounds_ne (Ne.symm hk)]
end

end Go.Ev
/-
  A small machine over closed data, twenty-one: stores, and what maps get.
-/
namespace Go.Ev

theorem tset_cons {α : Type} (t : T α) (i : Nat) (v : α) (l : List α) : tset t i (v :: l) = tset (t.set v (pos i)) (Nat.succ i) l := rfl
theorem tset_get {α : Type} (k : Nat) : ∀ (l : List α) (t : T α) (i : Nat), (tset t i l).get (pos k) = if i ≤ k ∧ k < i + l.length then l[k - i]? else t.get (pos k) := by
  intro l
  induction l with
  | nil => intro t i; rw [if_neg (by simp)]; rfl
  | cons v l ih =>
    intro t i
    rw [tset_cons, ih, T.get_set]
    simp only [List.length_cons]
    by_cases hk : k = i
    · subst hk; rw [if_neg (by omega), if_pos rfl, if_pos (by omega)]; simp
    · rw [if_neg (fun h => hk (pos_inj h).symm)]
      by_cases h2 : Nat.succ i ≤ k ∧ k < Nat.succ i + l.length
      · rw [if_pos h2, if_pos (by omega), show k - i = (k - Nat.succ i) + 1 by omega, List.getElem?_cons_succ]
      · rw [if_neg h2, if_neg (by omega)]

section
variable {P : Program} {φ : Map} {h : AHeap} {w : World}

structure Wrote (x y : AObj) (o : Nat) (vs : List AV) : Prop where
  grp : grpOf y = none
  plain : isGrp y = false
  elem : elemOf y = elemOf x
  size : sizeOf y = sizeOf x
  fz : fzOf y = fzOf x
  small : isSmall y = isSmall x
  fits : ∀ j, j < vs.length → o + j < sizeOf x ∧ fzOf x ≤ o + j
  cell : ∀ k v, cell y k = some v → if o ≤ k ∧ k < o + vs.length then vs[k - o]? = some v else cell x k = some v
theorem wcells_spec {x y : AObj} {o : Nat} {vs : List AV} (hw : wcells (solo x) o vs = some y) : Wrote x y o vs := by
  cases x with
  | small e l =>
    obtain ⟨r, h1, h2⟩ := ob_inv (o := putO l o vs) hw
    cases h2
    obtain ⟨h3, h4, h5⟩ := putO_eq l o vs r h1
    refine ⟨rfl, rfl, rfl, h4, rfl, rfl, fun j hj => ⟨?_, Nat.zero_le _⟩, fun k v hk => ?_⟩
    · have := h3 (by intro h; rw [h] at hj; simp at hj)
      show o + j < l.length
      omega
    · have hk : nth r k = some v := hk
      rw [nth_eq, h5] at hk
      show if _ then _ else nth l k = some v
      rw [nth_eq]
      split at hk
      · rename_i hh; rw [if_pos hh]; exact hk
      · rename_i hh; rw [if_neg hh]; exact hk
  | big e fz n z t g =>
    obtain ⟨h1, h2⟩ := gd_inv (b := Nat.ble (Nat.add o (len vs)) n) hw
    obtain ⟨h3, h4⟩ := gd_inv (b := Nat.ble fz o) h2
    cases h4
    have h1 : o + len vs ≤ n := Nat.ble_eq.mp h1
    have h3 : fz ≤ o := Nat.ble_eq.mp h3
    rw [len_eq] at h1
    refine ⟨rfl, rfl, rfl, rfl, rfl, rfl, fun j hj => ⟨by show o + j < n; omega, by show fz ≤ o + j; omega⟩, fun k v hk => ?_⟩
    obtain ⟨h5, h6⟩ := gd_inv (b := Nat.ble (Nat.succ k) n) hk
    rw [tset_get] at h6
    by_cases hh : o ≤ k ∧ k < o + vs.length
    · rw [if_pos hh] at h6
      rw [if_pos hh]
      rw [List.getElem?_eq_getElem (by omega)] at h6 ⊢
      exact h6
    · rw [if_neg hh] at h6
      rw [if_neg hh]
      show gd (Nat.ble (Nat.succ k) n) _ = some v
      rw [h5]; exact h6
  | _ => cases hw

theorem flat_one {v : AV} {x : Value} (hx : VR φ v x) (hf : flat v = true) : x.oneCell' = true := by
  cases hx <;> first | rfl | cases hf
theorem flats_one {vs : List AV} {xs : List Value} (hx : VRs φ vs xs) (hf : flats vs = true) : ∀ x ∈ xs, x.oneCell' = true := by
  induction vs generalizing xs with
  | nil => cases hx; simp
  | cons v vs ih =>
    cases hx with
    | cons _ x _ xs h1 h2 =>
      have hf : bi (flat v) (flats vs) false = true := hf
      cases hv : flat v with
      | false => rw [hv] at hf; cases hf
      | true =>
        rw [hv] at hf
        intro y hy
        rcases List.mem_cons.mp hy with rfl | hy
        · exact flat_one h1 hv
        · exact ih h2 hf y hy

theorem store_sound (R : Rep P φ h w) (D : Pos → Prop) {b : Pos} {o : Nat} {vs : List AV} {xs : List Value} {h' : AHeap} {L : Loc} (hL : φ b = some L) (hx : VRs φ vs xs) (hs : store h b o vs = some h') :
    ∃ w', (storeCells ⟨L.blk, L.off + o, none⟩ xs).run P w = .ok () w' ∧ Rep P φ h' w' ∧ Grows D φ φ h h' w w' := by
  obtain ⟨hf, hs⟩ := gd_inv (b := flats vs) hs
  obtain ⟨t, next⟩ := h
  obtain ⟨x, hb, hs⟩ := ob_inv (o := t.get b) hs
  obtain ⟨y, hw, hs⟩ := ob_inv (o := wcells (solo x) o vs) hs
  cases hs
  have W := wcells_spec hw
  have hcells : ∃ e c lo hi, w.heap[L.blk]? = some (.cells c e (lo, hi)) ∧ elemOf x = some e ∧ CellsR φ x L c lo hi := by
    obtain ⟨z, h1, h2⟩ := R.obj b x L hb hL
    cases h2 with
    | cells _ _ e c lo hi he h => exact ⟨e, c, lo, hi, h1, he, h⟩
    | _ => cases hw
  obtain ⟨e, c, lo, hi, h1, h2, C⟩ := hcells
  have hl := hx.length
  obtain ⟨c', g1, g2, g3⟩ := run_sto (P := P) (β := L.blk) (o := L.off + o) xs 0 c w h1 (fun j hj => by
    obtain ⟨g4, g5⟩ := W.fits j (by omega)
    have g6 := C.fits
    have g7 := C.size
    refine ⟨by omega, ?_⟩
    have := C.warm (by omega)
    show ¬ (lo ≤ _ ∧ _ < hi)
    omega) (flats_one hx hf)
  have hy : ObjR P φ y L (.cells c' e (lo, hi)) := by
    refine .cells y L e c' lo hi (by rw [W.elem]; exact h2) ⟨by rw [g2]; exact C.size, by rw [W.size]; exact C.fits, fun i v hv => ?_, by rw [W.small, W.size]; exact C.calm, by rw [W.fz, W.size]; exact C.warm⟩
    rw [g3]
    have := W.cell i v hv
    simp only [Nat.add_zero]
    by_cases hh : o ≤ i ∧ i < o + vs.length
    · rw [if_pos hh] at this
      obtain ⟨u, g4, g5⟩ := hx.get _ this
      refine ⟨u, ?_, g5⟩
      rw [if_pos (by omega), show L.off + i - (L.off + o) = i - o by omega]; exact g4
    · rw [if_neg hh] at this
      rw [if_neg (by omega)]
      exact C.cell i v this
  exact ⟨_, g1, R.write hb hL W.grp W.plain hy rfl, R.written D hb hL rfl rfl rfl rfl⟩

noncomputable def DoesU (P : Program) (D : Pos → Prop) (φ : Map) (h : AHeap) (w : World) (s : Sem Unit) (h' : AHeap) : Prop := ∃ w', s.run P w = .ok () w' ∧ Rep P φ h' w' ∧ Grows D φ φ h h' w w'
noncomputable def Does (P : Program) (D : Pos → Prop) (φ : Map) (h : AHeap) (w : World) (s : Sem Value) (h' : AHeap) (a : AV) : Prop := ∃ v w' φ', s.run P w = .ok v w' ∧ VR φ' a v ∧ Rep P φ' h' w' ∧ Grows D φ φ' h h' w w'

theorem g_sto (R : Rep P φ h w) (D : Pos → Prop) {t : TypeId} {n : Nat} {p v a : AV} {x y : Value} {h' : AHeap} (hn : szT P t = some n) (hx : VR φ p x) (hy : VR φ v y)
    (he : onPtr p (fun b o => gd (Nat.beq (len (cells v)) n) (ob (store h b o (cells v)) fun h => some (AV.un, h))) none = some (a, h')) : DoesU P D φ h w (Instr.storeAt t x y) h' ∧ a = .un := by
  obtain ⟨b, o, rfl, h1⟩ := onPtr_inv (v := p) he
  obtain ⟨h2, h3⟩ := gd_inv h1
  obtain ⟨h4, h5, h6⟩ := ob_inv h3
  cases h6
  cases hx with
  | ptr _ _ L hL =>
    have hkn : known v = true := by
      cases v with
      | un => obtain ⟨hf, _⟩ := gd_inv (b := flats [AV.un]) h5; cases hf
      | _ => rfl
    have hc := hy.cells (known_ne hkn)
    obtain ⟨w', g1, g2, g3⟩ := store_sound R D hL hc h5
    refine ⟨⟨w', ?_, g2, g3⟩, rfl⟩
    have hsz : y.cells.size = n := by
      rw [← Nat.eq_of_beq_eq_true h2, len_eq, hc.length]; simp
    simp only [Instr.storeAt, Instr.sureAddr, storeVar, Sem.run_bind, Sem.run_pure, Result.andThen_ok, run_sizeOf hn, hsz, ne_eq, not_true_eq_false, if_false]
    exact g1
end

end Go.Ev
/-
  A small machine over closed data, twenty-two: a map gets an entry.
-/
namespace Go.Ev

section
variable {P : Program} {φ : Map} {h : AHeap} {w : World}

theorem upd_nil (e : KTy) (k v : AV) : upd h e k v [] = some [(k, v)] := rfl
theorem upd_cons (e : KTy) (k v a u : AV) (es : List (AV × AV)) : upd h e k v ((a, u) :: es) = ob (aeqK e h k a) fun r => bi r (some ((k, v) :: es)) (ob (upd h e k v es) fun es => some ((a, u) :: es)) := rfl

/-- where an entry goes -/
inductive Goes (φ : Map) (E : AV → Prop) (k v : AV) (es : List (AV × AV)) (fs : List MapEntry) (i : Nat) : List (AV × AV) → Option (Nat × Value) → Prop where
  | no : Goes φ E k v es fs i (es ++ [(k, v)]) none
  | yes (j : Nat) (e : MapEntry) (a : AV) (he : fs[j]? = some e) (ha : E a) (hr : VR φ a e.key) (hp : ∃ u, es[j]? = some (a, u)) : Goes φ E k v es fs i (es.set j (k, v)) (some (i + j, e.val))
theorem Goes.later {E : AV → Prop} {k v : AV} {es es' : List (AV × AV)} {fs : List MapEntry} {i : Nat} {q : Option (Nat × Value)} (p : AV × AV) (e : MapEntry) (H : Goes φ E k v es fs (i + 1) es' q) : Goes φ E k v (p :: es) (e :: fs) i (p :: es') q := by
  cases H with
  | no => exact .no
  | yes j e' a he ha hr hp => rw [Nat.add_assoc, Nat.add_comm 1 j]; exact .yes (j + 1) e' a (by simpa using he) ha hr (by simpa using hp)

theorem updNow_sound {d : TypeDesc} {e : KTy} {k v : AV} {x : Value} (hf : ∀ a y r, aeqK e h k a = some r → VR φ a y → Instr.sameNow d x y = some r) : ∀ (es : List (AV × AV)) (fs : List MapEntry) (i : Nat) (es' : List (AV × AV)),
    EsR φ es fs → upd h e k v es = some es' → ∃ q, Instr.findNow d x fs i = some q ∧ Goes φ (fun a => aeqK e h k a = some true) k v es fs i es' q := by
  intro es
  induction es with
  | nil => intro fs i es' he hr; cases he; cases hr; exact ⟨none, rfl, .no⟩
  | cons p es ih =>
    intro fs i es' he hr
    obtain ⟨a, u⟩ := p
    cases he with
    | cons _ _ e' _ fs hk hv hs =>
      rw [upd_cons] at hr
      obtain ⟨b, h1, h2⟩ := ob_inv hr
      have h3 := hf a e'.key b h1 hk
      cases b with
      | true =>
        cases (show some ((k, v) :: es) = some es' from h2)
        refine ⟨some (i, e'.val), by simp [Instr.findNow, h3], ?_⟩
        have := Goes.yes (φ := φ) (E := fun a => aeqK e h k a = some true) (k := k) (v := v) (es := (a, u) :: es) (fs := e' :: fs) (i := i) 0 e' a rfl h1 hk ⟨u, rfl⟩
        simpa using this
      | false =>
        obtain ⟨r, h4, h5⟩ := ob_inv (show ob (upd h e k v es) (fun es => some ((a, u) :: es)) = some es' from h2)
        cases h5
        obtain ⟨q, h6, h7⟩ := ih fs (i + 1) r hs h4
        exact ⟨q, by simp [Instr.findNow, h3, h6], h7.later (a, u) e'⟩
theorem updAsking_sound {t : TypeId} {e : KTy} {k v : AV} {x : Value} (hf : ∀ a y r, aeqK e h k a = some r → VR φ a y → (Op.equal t x y).run P w = .ok r w) : ∀ (es : List (AV × AV)) (fs : List MapEntry) (i : Nat) (es' : List (AV × AV)),
    EsR φ es fs → upd h e k v es = some es' → ∃ q, (Instr.findAsking t x fs i).run P w = .ok q w ∧ Goes φ (fun a => aeqK e h k a = some true) k v es fs i es' q := by
  intro es
  induction es with
  | nil => intro fs i es' he hr; cases he; cases hr; exact ⟨none, by simp [Instr.findAsking], .no⟩
  | cons p es ih =>
    intro fs i es' he hr
    obtain ⟨a, u⟩ := p
    cases he with
    | cons _ _ e' _ fs hk hv hs =>
      rw [upd_cons] at hr
      obtain ⟨b, h1, h2⟩ := ob_inv hr
      have h3 := hf a e'.key b h1 hk
      cases b with
      | true =>
        cases (show some ((k, v) :: es) = some es' from h2)
        refine ⟨some (i, e'.val), by simp [Instr.findAsking, h3], ?_⟩
        have := Goes.yes (φ := φ) (E := fun a => aeqK e h k a = some true) (k := k) (v := v) (es := (a, u) :: es) (fs := e' :: fs) (i := i) 0 e' a rfl h1 hk ⟨u, rfl⟩
        simpa using this
      | false =>
        obtain ⟨r, h4, h5⟩ := ob_inv (show ob (upd h e k v es) (fun es => some ((a, u) :: es)) = some es' from h2)
        cases h5
        obtain ⟨q, h6, h7⟩ := ih fs (i + 1) r hs h4
        exact ⟨q, by simp [Instr.findAsking, h3, h6], h7.later (a, u) e'⟩

theorem updKey_sound (R : Rep P φ h w) {e : KTy} {t : TypeId} (hk : KT P e t) {k v : AV} {x : Value} (hx : VR φ k x) {es es' : List (AV × AV)} {fs : List MapEntry} (he : EsR φ es fs) (hr : upd h e k v es = some es') :
    ∃ q, (Instr.findKey t x fs).run P w = .ok q w ∧ Goes φ (fun a => aeqK e h k a = some true) k v es fs 0 es' q := by
  have now : ∀ {d : TypeDesc}, P.underlying t = some d → (∀ a y r, aeqK e h k a = some r → VR φ a y → Instr.sameNow d x y = some r) → ∃ q, (Instr.findKey t x fs).run P w = .ok q w ∧ Goes φ (fun a => aeqK e h k a = some true) k v es fs 0 es' q := by
    intro d hu hf
    obtain ⟨q, h1, h2⟩ := updNow_sound hf es fs 0 es' he hr
    exact ⟨q, by simp [Instr.findKey, run_underlying hu, h1], h2⟩
  cases e with
  | int =>
    obtain ⟨kk, hu⟩ := hk
    refine now hu ?_
    intro a y r ha hy
    obtain ⟨l, m, n, rfl, rfl, rfl⟩ := aeqI_inv ha
    cases hx; cases hy
    simp [Instr.sameNow]
  | str =>
    refine now hk ?_
    intro a y r ha hy
    obtain ⟨l, m, rfl, rfl, rfl⟩ := aeqS_inv ha
    cases hx with
    | str _ bs hb => cases hy with
      | str _ cs hc =>
        subst hb; subst hc
        rw [← bytes_eq]
        simp only [Instr.sameNow]
        rw [beq_toListBytes]
  | bool =>
    refine now hk ?_
    intro a y r ha hy
    obtain ⟨l, m, rfl, rfl, rfl⟩ := aeqB_inv ha
    cases hx; cases hy
    simp [Instr.sameNow]
  | ptr =>
    obtain ⟨el, n, hu, hn⟩ := hk
    cases es with
    | nil => cases he; cases hr; exact ⟨none, by simp [Instr.findKey, run_underlying hu, Instr.findNow], .no⟩
    | cons p es =>
      obtain ⟨q, h1, h2⟩ := updAsking_sound (P := P) (w := w) (h := h) (e := .ptr) (k := k) (v := v) (t := t) (x := x) (fun a y r ha hy => pteq_sound R 9999 hu hn (show pteq h k a = some r from ha) hx hy) _ fs 0 es' he hr
      refine ⟨q, ?_, h2⟩
      cases he with
      | cons _ _ e _ fs' _ _ _ =>
        simp only [Instr.findKey, Sem.run_bind, run_underlying hu, Result.andThen_ok]
        have : Instr.findNow (.pointer el) x (e :: fs') 0 = none := by
          simp [Instr.findNow, Instr.sameNow]
        rw [this]
        exact h1

/-- equal keys have the same bits -/
theorem sameBits_sound {e : KTy} {k a : AV} {x y : Value} (hq : aeqK e h k a = some true) (hx : VR φ k x) (hy : VR φ a y) (n : Nat) : Instr.sameBits n y x = true := by
  cases e with
  | int =>
    obtain ⟨l, m, p, rfl, rfl, h1⟩ := aeqI_inv hq
    cases hx; cases hy
    have := eq_of_beq h1.symm
    subst this
    simp [Instr.sameBits]
  | str =>
    obtain ⟨l, m, rfl, rfl, h1⟩ := aeqS_inv hq
    have := (seq_iff l m).mp h1.symm
    subst this
    cases hx with
    | str _ bs hb => cases hy with
      | str _ cs hc =>
        have : cs = bs := by
          rw [← hb] at hc
          have := map_toNat_inj hc
          exact ByteArray.ext (Array.toList_inj.mp this)
        subst this
        simp only [Instr.sameBits]
        rw [beq_toListBytes]; simp
  | bool =>
    obtain ⟨l, m, rfl, rfl, h1⟩ := aeqB_inv hq
    cases hx; cases hy
    have := eq_of_beq h1.symm
    subst this
    simp [Instr.sameBits]
  | ptr =>
    have hq : pteq h k a = some true := hq
    rcases onPtr_or (v := k) hq with ⟨b, o, rfl, h1⟩ | h1
    · rcases onPtr_or (v := a) h1 with ⟨c, p, rfl, h2⟩ | h2
      · by_cases hbc : b = c
        · subst hbc
          rw [(peq_iff b b).mpr rfl] at h2
          have h3 : Nat.beq o p = true := Option.some.inj h2
          have := Nat.eq_of_beq_eq_true h3
          subst this
          cases hx with
          | ptr _ _ L hL => cases hy with
            | ptr _ _ M hM =>
              rw [hL] at hM; cases hM
              simp [Instr.sameBits]
        · rw [show peq b c = false by rw [← Bool.not_eq_true, peq_iff]; exact hbc, bi_false] at h2
          obtain ⟨_, h2⟩ := gd_inv h2
          cases h2
      · obtain ⟨_, h3⟩ := gd_inv h2
        cases h3
    · obtain ⟨h2, h3⟩ := gd_inv h1
      cases isNilp_eq h2
      rcases onPtr_or (v := a) h3 with ⟨c, p, rfl, h4⟩ | h4
      · cases h4
      · obtain ⟨h5, _⟩ := gd_inv h4
        cases isNilp_eq h5
        cases hx; cases hy
        simp [Instr.sameBits]
theorem run_keyThatStays {x y : Value} (hs : Instr.sameBits 10000 y x = true) : (Instr.keyThatStays y x).run P w = .ok x w := by
  simp [Instr.keyThatStays, hs]

theorem EsR.push {es : List (AV × AV)} {fs : List MapEntry} (H : EsR φ es fs) {k v : AV} {e : MapEntry} (hk : VR φ k e.key) (hv : VR φ v e.val) : EsR φ (es ++ [(k, v)]) (fs ++ [e]) := by
  induction es generalizing fs with
  | nil => cases H; exact .cons k v e _ _ hk hv .nil
  | cons p es ih => cases H with
    | cons a b e' _ fs h1 h2 h3 => exact .cons a b e' _ _ h1 h2 (ih h3)
theorem EsR.set {es : List (AV × AV)} {fs : List MapEntry} (H : EsR φ es fs) {k v : AV} {e : MapEntry} (hk : VR φ k e.key) (hv : VR φ v e.val) (j : Nat) : EsR φ (es.set j (k, v)) (fs.set j e) := by
  induction es generalizing fs j with
  | nil => cases H; exact .nil
  | cons p es ih => cases H with
    | cons a b e' _ fs h1 h2 h3 =>
      cases j with
      | zero => exact .cons k v e _ _ hk hv h3
      | succ j => exact .cons a b e' _ _ h1 h2 (ih h3 j)
theorem run_setMap {β : Nat} {fs : Array MapEntry} {clock : Nat} (hb : w.heap[β]? = some (.map fs clock)) (o : Obj) : (setObj β o).run P w = .ok () { w with heap := w.heap.setIfInBounds β o } := by
  simp [setObj, Sem.run, hb]

theorem upd_push {e : KTy} {k v : AV} : ∀ {es : List (AV × AV)}, upd h e k v es = some (es ++ [(k, v)]) → ∀ p ∈ es, aeqK e h k p.1 = some false := by
  intro es
  induction es with
  | nil => intro _ p hp; cases hp
  | cons q es ih =>
    intro hr p hp
    obtain ⟨a, u⟩ := q
    rw [upd_cons] at hr
    obtain ⟨b, h1, h2⟩ := ob_inv hr
    cases b with
    | true =>
      have h2 : some ((k, v) :: es) = some ((a, u) :: (es ++ [(k, v)])) := h2
      have := congrArg List.length (Option.some.inj h2)
      simp at this
    | false =>
      obtain ⟨r, h4, h5⟩ := ob_inv (show ob (upd h e k v es) (fun es => some ((a, u) :: es)) = some ((a, u) :: (es ++ [(k, v)])) from h2)
      have h5 : r = es ++ [(k, v)] := by cases h5; rfl
      rw [h5] at h4
      rcases List.mem_cons.mp hp with rfl | hp
      · exact h1
      · exact ih h4 p hp
theorem lit_one {a k : AV} {y : Value} (ha : litK a = true) (hk : litK k = true) (h1 : VR φ a y) (h2 : VR φ k y) : a = k := by
  cases h1 with
  | bool => cases h2 <;> first | rfl | cases hk
  | int => cases h2 <;> first | rfl | cases hk
  | str s bs hb =>
    cases h2 with
    | str s2 _ hc => rw [← hb, ← hc]
    | _ => cases hk
  | _ => cases ha
theorem lit_val {k : AV} {y z : Value} (hk : litK k = true) (h1 : VR φ k y) (h2 : VR φ k z) : y = z := by
  cases h1 with
  | bool => cases h2; rfl
  | int => cases h2; rfl
  | str s bs hb =>
    cases h2 with
    | str _ cs hc =>
      have : bs.data = cs.data := by
        apply Array.toList_inj.mp
        exact (List.map_inj_right (fun a b h => UInt8.toNat_inj.mp h)).mp (hb.trans hc.symm)
      cases bs; cases cs; cases this; rfl
  | _ => cases hk
theorem lit_self {e : KTy} {k : AV} (hk : litK k = true) : aeqK e h k k ≠ some false := by
  intro he
  cases e <;> cases k <;> first
    | (cases hk; done)
    | (cases he; done)
    | skip
  case int.int q n =>
    have he : gd (keq q q) (some (ieq n n)) = some false := he
    obtain ⟨_, h2⟩ := gd_inv he
    rw [ieq_eq] at h2; simp at h2
  case str.str s =>
    have he : some (seq s s) = some false := he
    rw [(seq_iff s s).mpr rfl] at he; cases he
  case bool.bool b => cases b <;> cases he
theorem lit_true {e : KTy} {k a : AV} (hk : litK k = true) (he : aeqK e h k a = some true) : a = k := by
  cases e <;> cases k <;> first
    | (cases hk; done)
    | (cases he; done)
    | skip
  case int.int q n =>
    cases a with
    | int q2 n2 =>
      have he : gd (keq q q2) (some (ieq n n2)) = some true := he
      obtain ⟨h1, h2⟩ := gd_inv he
      rw [ieq_eq] at h2
      have h3 : n = n2 := by simpa using h2
      rw [keq_eq h1, h3]
    | _ => cases he
  case str.str s =>
    cases a with
    | str s2 =>
      have he : some (seq s s2) = some true := he
      rw [(seq_iff s s2).mp (Option.some.inj he)]
    | _ => cases he
  case bool.bool b =>
    cases a with
    | bool b2 => cases b <;> cases b2 <;> first | rfl | cases he
    | _ => cases he
theorem g_mup (R : Rep P φ h w) (D : Pos → Prop) {e : KTy} {t kt et : TypeId} {x y z : Value} {m k v a : AV} {h' : AHeap} (hu : P.underlying t = some (.map kt et)) (hk : KT P e kt) (hx : VR φ m x) (hy : VR φ k y) (hz : VR φ v z)
    (he : onMap m (fun b => onHeap h fun t next => ob (t.get b) fun x => onMapO x (fun es => ob (upd h e k v es) fun es => some (AV.un, (⟨t.set (.map es) b, next⟩ : AHeap))) none) none = some (a, h')) :
    DoesU P D φ h w (Instr.mapUpdate t x y z) h' ∧ a = .un := by
  obtain ⟨b, rfl, h1⟩ := onMap_inv (v := m) he
  have h1 : (ob (h.t.get b) fun x => onMapO x (fun es => ob (upd h e k v es) fun es => some (AV.un, (⟨h.t.set (.map es) b, h.next⟩ : AHeap))) none) = some (a, h') := by cases h; exact h1
  obtain ⟨o, h2, h3⟩ := ob_inv h1
  obtain ⟨es, rfl, h4⟩ := onMapO_inv (v := o) h3
  obtain ⟨es', h5, h6⟩ := ob_inv h4
  cases h6
  cases hx with
  | map _ L hL =>
    obtain ⟨fs, clock, h7, h8, hst⟩ := R.map h2 hL
    obtain ⟨q, h9, h10⟩ := updKey_sound R hk hy h8 h5
    have key : ∀ (es' : List (AV × AV)) (fs' : Array MapEntry) (clock' : Nat), EsR φ es' fs'.toList → ((∀ p ∈ es', litK p.1 = true) → MapKept.Stamped fs' clock') →
        ∃ w', w' = { w with heap := w.heap.setIfInBounds L.blk (.map fs' clock') } ∧ Rep P φ ⟨h.t.set (.map es') b, h.next⟩ w' ∧ Grows D φ φ h ⟨h.t.set (.map es') b, h.next⟩ w w' := by
      intro es' fs' clock' hE hS
      refine ⟨_, rfl, ?_, ?_⟩
      · exact R.write h2 hL rfl rfl (.map es' L fs' clock' hE hS) rfl
      · exact R.written (y := .map es') D h2 hL rfl rfl rfl rfl
    refine ⟨?_, rfl⟩
    cases h10 with
    | no =>
      obtain ⟨w', rfl, k1, k2⟩ := key (es ++ [(k, v)]) (fs.push { key := y, val := z, born := clock }) (clock + 1) (by simpa using h8.push (e := { key := y, val := z, born := clock }) hy hz) (fun hlit => by
        have hk1 : litK k = true := hlit (k, v) (by simp)
        refine MapKept.stamped_push (hst fun p hp => hlit p (by simp [hp])) fun x hx hxy => ?_
        obtain ⟨i, hi⟩ := List.mem_iff_getElem?.mp hx
        obtain ⟨a, u, ha, har, _⟩ := h8.at hi
        have hm : (a, u) ∈ es := List.mem_of_getElem? ha
        rw [hxy] at har
        have := lit_one (hlit (a, u) (by simp [hm])) hk1 har hy
        have h9 := upd_push h5 (a, u) hm
        rw [this] at h9
        exact lit_self hk1 h9)
      refine ⟨_, ?_, k1, k2⟩
      simp only [Instr.mapUpdate, Sem.run_bind, run_underlying hu, Result.andThen_ok, run_getMap h7, run_checkKey hk, h9, run_setMap h7]
    | yes j e' a ha1 ha2 ha3 ha4 =>
      rw [Array.getElem?_toList] at ha1
      have hb := sameBits_sound ha2 hy ha3 10000
      obtain ⟨w', rfl, k1, k2⟩ := key (es.set j (k, v)) (fs.modify j fun e => { e with key := y, val := z }) clock (by
        have := h8.set (e := { e' with key := y, val := z }) hy hz j
        have hm : (fs.modify j fun e => { e with key := y, val := z }).toList = fs.toList.set j { e' with key := y, val := z } := by
          apply List.ext_getElem?
          intro i
          rw [Array.getElem?_toList, Array.getElem?_modify, List.getElem?_set, Array.getElem?_toList]
          by_cases hij : j = i
          · subst hij
            rw [if_pos rfl, if_pos rfl, ha1, if_pos (by simpa using (Array.getElem?_eq_some_iff.mp ha1).1)]; rfl
          · rw [if_neg hij, if_neg hij]
        rw [hm]; exact this) (fun hlit => by
        obtain ⟨u0, hu0⟩ := ha4
        have hj : j < es.length := (List.getElem?_eq_some_iff.mp hu0).1
        have hk1 : litK k = true := hlit (k, v) (List.mem_of_getElem? (i := j) (by rw [List.getElem?_set, if_pos rfl, if_pos hj]))
        have hak := lit_true hk1 ha2
        refine MapKept.stamped_modify (hst fun p hp => ?_) j _ (fun _ _ => rfl) (fun x _ hx => ?_)
        · obtain ⟨i, hi⟩ := List.mem_iff_getElem?.mp hp
          by_cases hij : j = i
          · subst hij
            rw [hu0] at hi; cases hi
            rw [hak]; exact hk1
          · exact hlit p (List.mem_of_getElem? (i := i) (by rw [List.getElem?_set, if_neg hij]; exact hi))
        · rw [ha1] at hx; cases hx
          rw [hak] at ha3
          exact lit_val hk1 hy ha3)
      refine ⟨_, ?_, k1, k2⟩
      have hg : ((fs[j]?).map (·.key)).getD y = e'.key := by rw [ha1]; rfl
      simp only [Instr.mapUpdate, Sem.run_bind, run_underlying hu, Result.andThen_ok, run_getMap h7, run_checkKey hk, h9, Nat.zero_add, hg, run_keyThatStays hb, run_setMap h7]
end

end Go.Ev
/-
  A small machine over closed data, twenty-three: what makes large memory.
-/
namespace Go.Ev

section
variable {P : Program} {φ : Map} {h : AHeap} {w w' : World}

/-- a block that both machines make -/
theorem Rep.make (R : Rep P φ h w) (D : Pos → Prop) {o : AObj} {x : Obj} {csz : Nat} (hg : grpOf o = none) (hi : isGrp o = false) (ho : ObjR P (φ.put h.next ⟨w.heap.size, 0, csz⟩) o ⟨w.heap.size, 0, csz⟩ x)
    (hw : w'.heap = w.heap.push x) (h1 : w'.os = w.os) (h2 : w'.tape = w.tape) (h3 : w'.output = w.output) :
    Rep P (φ.put h.next ⟨w.heap.size, 0, csz⟩) (new h o) w' ∧ Grows D φ (φ.put h.next ⟨w.heap.size, 0, csz⟩) h (new h o) w w' ∧ (φ.put h.next ⟨w.heap.size, 0, csz⟩) h.next = some ⟨w.heap.size, 0, csz⟩ := by
  obtain ⟨R1, G1, h4, h5, h6⟩ := R.pend hg hi D
  have R2 := R1.realize h4 h5 hi rfl ho hw
  refine ⟨R2, ?_, φ.put_same _ _⟩
  have G2 := Grows.realize (D := fun b => b ≠ h.next) (h := new h o) h5 (L := ⟨w.heap.size, 0, csz⟩) rfl hw h1 h2 h3 (fun hn => hn rfl)
  refine ⟨G2.le, G2.size, h1, h2, h3, G2.keep, G2.fresh, ?_, G1.next⟩
  intro b z hd hb hz hiz hn
  have hne : b ≠ h.next := by rintro rfl; rw [h6] at hb; cases hb
  obtain ⟨_, h7⟩ := G1.pend b z hd hb hz hiz hn
  exact G2.pend b z hne h7 hz hiz hn

theorem zeroAt_eq (z : List AV) (i : Nat) : zeroAt z i = z[i % z.length]? := by
  unfold zeroAt; rw [nth_eq, len_eq]; rfl

/-- a large row, from its cells -/
theorem bigR {e : TypeId} {fz n : Nat} {z : List AV} {t : T AV} {g : Option Pos} {L : Loc} {c : Array Value} {lo hi : Nat} (hs : c.size = L.csz) (hn : L.off + n ≤ L.csz)
    (hc : ∀ i v, i < n → orZ (t.get (pos i)) (zeroAt z i) = some v → ∃ u, c[L.off + i]? = some u ∧ VR φ v u) (hf : fz ≤ n → lo = hi ∨ hi ≤ L.off + fz) : ObjR P φ (.big e fz n z t g) L (.cells c e (lo, hi)) := by
  refine .cells _ L e c lo hi rfl ⟨hs, hn, ?_, fun h => (by cases h), hf⟩
  intro i v hv
  obtain ⟨h1, h2⟩ := gd_inv (b := Nat.ble (Nat.succ i) n) hv
  exact hc i v (Nat.ble_eq.mp h1) h2
theorem listT {vs : List AV} {i : Nat} {z : List AV} {v : AV} (hi : i < vs.length) (h : orZ ((tset .leaf 0 vs).get (pos i)) (zeroAt z i) = some v) : vs[i]? = some v := by
  rw [tset_get, if_pos (by omega), Nat.sub_zero, List.getElem?_eq_getElem hi] at h
  rw [List.getElem?_eq_getElem hi]; exact h

theorem wrap_room {n : Nat} (hn : n ≤ room) : IntKind.i64.wrap (Int.ofNat n) = Int.ofNat n := by
  apply inr_wrap
  show Nat.ble n _ = true
  have : room = 1048576 := rfl
  rw [this] at hn
  refine Nat.ble_eq.mpr ?_
  show n ≤ 9223372036854775807
  omega

theorem bytesT_inv {t : TypeId} {m : Nat} (h : bytesT P t = some m) : ∃ i, P.info? t = some i ∧ i.bytes = m := by
  unfold bytesT at h
  split at h
  · rename_i i hi; cases h; exact ⟨i, hi, rfl⟩
  · cases h

theorem g_mks (R : Rep P φ h w) (D : Pos → Prop) {t e : TypeId} {n m : Nat} {z vl vc a : AV} {x y : Value} {h' : AHeap} (hu : P.underlying t = some (.slice e)) (hn : szT P e = some n) (hm : bytesT P e = some m) (hz : zeroT P e = some z)
    (hzn : len (cells z) = n) (hx : VR φ vl x) (hy : VR φ vc y)
    (he : (ob (nat vl) fun l => ob (nat vc) fun c => gd (Nat.ble l c) (gd (Nat.ble (Nat.mul c (Nat.succ m)) room) (some (AV.sl (nextOf h) 0 l n, new h (.big e 0 (Nat.mul c n) (cells z) .leaf none))))) = some (a, h')) :
    Does P D φ h w (Instr.makeSlice t x y) h' a := by
  obtain ⟨l, h1, he⟩ := ob_inv he
  obtain ⟨c, h2, he⟩ := ob_inv he
  obtain ⟨h3, he⟩ := gd_inv he
  obtain ⟨h4, he⟩ := gd_inv he
  cases he
  obtain ⟨k1, rfl⟩ := nat_inv h1
  obtain ⟨k2, rfl⟩ := nat_inv h2
  cases hx
  cases hy
  have h3 : l ≤ c := Nat.ble_eq.mp h3
  have h4 : c * (m + 1) ≤ room := Nat.ble_eq.mp h4
  have hroom : room = 1048576 := rfl
  have hcr : c ≤ room := by
    have : c * 1 ≤ c * (m + 1) := Nat.mul_le_mul_left c (by omega)
    omega
  obtain ⟨i, hi, hb⟩ := bytesT_inv hm
  obtain ⟨i', v, hi', hv, hr⟩ := zero_cells (φ := φ.put h.next ⟨w.heap.size, 0, c * n⟩) hz
  rw [hi] at hi'; cases hi'
  have hs : v.cells.size = n := by rw [← hzn, len_eq, hr.length]; simp
  have hzero : (cells z).length = n := by rw [← len_eq]; exact hzn
  have hcb : m * c ≤ room := by rw [Nat.mul_comm]; exact Nat.le_trans (Nat.mul_le_mul_left c (by omega)) h4
  generalize hcs : ((Array.range (c * n)).map fun j => (if c * n = 0 then (#[] : Array Value) else v.cells)[j % (if c * n = 0 then (#[] : Array Value) else v.cells).size]!) = cs
  have hcsz : cs.size = c * n := by rw [← hcs]; simp
  obtain ⟨R1, G1, hL⟩ := R.make D (o := .big e 0 (Nat.mul c n) (cells z) .leaf none) (x := .cells cs e (0, 0)) (csz := c * n) (w' := { w with heap := w.heap.push (.cells cs e (0, 0)) }) rfl rfl
    (bigR hcsz (by show 0 + c * n ≤ c * n; omega) (fun j u hj hu' => by
      have hj : j < c * n := hj
      have hu' : zeroAt (cells z) j = some u := hu'
      rw [zeroAt_eq, hzero] at hu'
      obtain ⟨p, g1, g2⟩ := hr.get _ hu'
      rw [Array.getElem?_toList] at g1
      refine ⟨p, ?_, g2⟩
      rw [← hcs]
      have h0 : c * n ≠ 0 := by omega
      simp only [if_neg h0, Nat.zero_add, Array.getElem?_map, hs]
      rw [Array.getElem?_range, if_pos hj]
      simp only [Option.map_some, Option.some.injEq]
      rw [getElem!_def, g1]) (fun _ => .inl rfl)) rfl rfl rfl rfl
  refine ⟨.slice (some ⟨w.heap.size, 0, none⟩) l c, _, _, ?_, ?_, R1, G1⟩
  · have hw1 : IntKind.i64.wrap (Int.ofNat l) = Int.ofNat l := wrap_room (by omega)
    have hw2 : IntKind.i64.wrap (Int.ofNat c) = Int.ofNat c := wrap_room hcr
    have t1 : (i.bytes : Int) * Int.ofNat c ≤ 1048576 := by
      rw [hb]; rw [hroom] at hcb
      show (m : Int) * (c : Int) ≤ 1048576
      have := Int.ofNat_le.mpr hcb
      rw [Int.natCast_mul] at this
      exact this
    have t2 : ¬ ((i.bytes : Int) * Int.ofNat c > 2 ^ 48) := by
      have : (1048576 : Int) ≤ 2 ^ 48 := by decide
      omega
    have hlc : ¬ ((Int.ofNat l) > (Int.ofNat c)) := by show ¬ ((c : Int) < (l : Int)); omega
    have a1 : decide (Int.ofNat c < 0) = false := decide_eq_false (by show ¬ ((c : Int) < 0); omega)
    have a2 : decide ((i.bytes : Int) * Int.ofNat c > 2 ^ 48) = false := decide_eq_false t2
    have a3 : decide (Int.ofNat l < 0) = false := decide_eq_false (by show ¬ ((l : Int) < 0); omega)
    have a4 : decide (Int.ofNat l > Int.ofNat c) = false := decide_eq_false hlc
    have hcond : ((decide (Int.ofNat c < 0) || decide ((i.bytes : Int) * Int.ofNat c > 2 ^ 48)) || decide (Int.ofNat l < 0) || decide (Int.ofNat l > Int.ofNat c)) = false := by
      rw [a1, a2, a3, a4]; rfl
    have hlx : (Int.ofNat l).toNat = l := rfl
    have hcx : (Int.ofNat c).toNat = c := rfl
    by_cases h0 : c * n = 0
    · simp only [if_pos h0] at hcs
      simp only [Instr.makeSlice, asInt, asIntOf, Sem.run_bind, run_underlying hu, Result.andThen_ok, Sem.run_pure, typeInfo, run_program, hi, hw1, hw2, hcond, Bool.false_eq_true, if_false, run_askRoom, run_sizeOf hn, hlx, hcx, if_pos h0, hcs, newRow, run_newObj]
    · simp only [if_neg h0] at hcs
      simp only [Instr.makeSlice, asInt, asIntOf, Sem.run_bind, run_underlying hu, Result.andThen_ok, Sem.run_pure, typeInfo, run_program, hi, hw1, hw2, hcond, Bool.false_eq_true, if_false, run_askRoom, run_sizeOf hn, hlx, hcx, if_neg h0, zeroValue, hv, hcs, newRow, run_newObj]
  · rw [nextOf_eq]
    exact .sl _ 0 l n c _ hL h3 (by show 0 + 0 + c * n ≤ c * n; omega)
end

end Go.Ev
/-
  A small machine over closed data, twenty-four: copies, bytes of strings, unsafe pointers and strings.
-/
namespace Go.Ev

section
variable {P : Program} {φ : Map} {h : AHeap} {w : World}

theorem loadCells_zero (a : Addr) : (loadCells a 0).run P w = .ok #[] w := rfl
theorem bytes_vrs : ∀ (l : List UInt8), VRs φ ((l.map (·.toNat)).map fun c => AV.int .u8 (.ofNat c)) (l.map fun b => Value.int .u8 b.toNat) := by
  intro l
  induction l with
  | nil => exact .nil
  | cons x l ih => exact .cons _ _ _ _ (.int _ _) ih
theorem src_sound (R : Rep P φ h w) {v : AV} {x : Value} (hx : VR φ v x) {n m : Nat} {vs : List AV} (hm : ∀ b o k z, v = .sl b o k z → m ≤ k) (hs : src v h n m = some vs) :
    ∃ us : Array Value, (Builtin.firstCells n m x).run P w = .ok us w ∧ VRs φ vs us.toList := by
  cases hx with
  | nils => cases hs; exact ⟨#[], rfl, .nil⟩
  | str s bs hb =>
    obtain ⟨t, h1, h2⟩ := ob_inv (o := tkO m s) hs
    cases h2
    rw [tkO_eq] at h1
    split at h1
    · cases h1
      refine ⟨(bs.extract 0 m).data.map fun b => .int .u8 b.toNat, rfl, ?_⟩
      rw [mapT_eq, ← hb, ← List.map_take]
      have : ((bs.extract 0 m).data.map fun b => Value.int .u8 b.toNat).toList = (bs.data.toList.take m).map fun b => Value.int .u8 b.toNat := by
        simp [ByteArray.data_extract, List.extract_eq_take_drop]
      rw [this]
      exact bytes_vrs _
    · cases h1
  | sl b o k z cap L hL hn hc =>
    obtain ⟨y, h1, h2⟩ := ob_inv (o := hget h b) hs
    obtain ⟨us, g1, g2, g3⟩ := read_cells R h1 hL h2
    have := run_loadCellsFrom (P := P) (w := w) (β := L.blk) (o := L.off + o) (Nat.mul m n) 0 #[] us g1 (fun j hj => by simpa using g3 j hj)
    exact ⟨us.toArray, by simpa [Builtin.firstCells, loadCells] using this, by simpa using g2⟩
  | sl0 b o z L a hL =>
    obtain ⟨y, h1, h2⟩ := ob_inv (o := hget h b) hs
    have h0 : m = 0 := by have := hm b o 0 z rfl; omega
    subst h0
    have h3 := (cellsN_spec h2).1
    have h3 : vs.length = 0 := by rw [h3]; exact Nat.zero_mul n
    cases vs with
    | nil => exact ⟨#[], by simp [Builtin.firstCells, loadCells_zero], .nil⟩
    | cons v vs => simp at h3
  | _ => cases hs
theorem len?_sound {v : AV} {x : Value} (hx : VR φ v x) {m : Nat} (hl : len? v = some m) : (Builtin.lenOf x).run P w = .ok m w := by
  cases hx with
  | str s bs hb =>
    cases hl
    rw [len_eq, ← hb, List.length_map, Array.length_toList]
    rfl
  | nils => cases hl; rfl
  | sl => cases hl; rfl
  | sl0 => cases hl; rfl
  | _ => cases hl
theorem len?_sl {v : AV} {m : Nat} (hl : len? v = some m) (b : Pos) (o k z : Nat) (hv : v = .sl b o k z) : m ≤ k := by
  subst hv; cases hl; exact Nat.le_refl _

theorem g_cpy (R : Rep P φ h w) (D : Pos → Prop) {td t2 ty e : TypeId} {ts : List TypeId} {n : Nat} {d s a : AV} {x y : Value} {h' : AHeap} (hu : P.underlying td = some (.slice e)) (hn : szT P e = some n) (hx : VR φ d x) (hy : VR φ s y)
    (he : (ob (len? d) fun a => ob (len? s) fun b => ob (src s h n (Nat.min b a)) fun vs =>
      onSl d (fun c o _ _ => ob (store h c o vs) fun h => some (AV.int .i64 (.ofNat (Nat.min b a)), h)) (gd (isNils d) (some (.int .i64 (.ofNat 0), h)))) = some (a, h')) :
    Does P D φ h w (Builtin.copy_ (td :: ts).toArray ty #[x, y]) h' a := by
  obtain ⟨p, h1, he⟩ := ob_inv he
  obtain ⟨q, h2, he⟩ := ob_inv he
  obtain ⟨vs, h3, he⟩ := ob_inv he
  obtain ⟨us, g1, g2⟩ := src_sound R hy (fun b o k z hv => Nat.le_trans (Nat.min_le_left q p) (len?_sl h2 b o k z hv)) h3
  have l1 := len?_sound (P := P) (w := w) hy h2
  have key : ∀ (base : Option Addr) (len cap : Nat) (w' : World), x = .slice base len cap → len = p → (match base with | some a => storeCells a us.toList | none => pure ()).run P w = .ok () w' →
      (Builtin.copy_ (td :: ts).toArray ty #[x, y]).run P w = .ok (goInt (Nat.min q p)) w' := by
    intro base len cap w' hxx hl hr
    subst hxx; subst hl
    cases base with
    | none =>
      cases hr
      simp [Builtin.copy_, run_underlying hu, l1, run_sizeOf hn, g1]
    | some a =>
      have hr : (storeCells a us.toList).run P w = .ok () w' := hr
      simp [Builtin.copy_, run_underlying hu, l1, run_sizeOf hn, g1, hr]
  rcases onSl_or (v := d) he with ⟨b, o, k, z, rfl, h4⟩ | h4
  · obtain ⟨h5, h6, h7⟩ := ob_inv h4
    cases h7
    have hp : p = k := by cases h1; rfl
    subst hp
    cases hx with
    | sl _ _ _ _ cap L hL hnc hc =>
      obtain ⟨w', k1, k2, k3⟩ := store_sound R D hL g2 h6
      exact ⟨_, w', φ, key _ _ _ w' rfl rfl k1, .int _ _, k2, k3⟩
    | sl0 _ _ _ L a hL =>
      obtain ⟨w', k1, k2, k3⟩ := store_sound R D hL g2 h6
      have hm : Nat.min q 0 = 0 := Nat.min_eq_right (Nat.zero_le q)
      have hus : us.toList = [] := by
        rw [hm] at h3
        have hl : vs.length = 0 := by
          cases hy with
          | nils => cases h3; rfl
          | str s bs hb =>
            have h3 : some ([] : List AV) = some vs := h3
            cases h3; rfl
          | sl b2 o2 k2 z2 cap2 L2 hL2 _ _ =>
            obtain ⟨y2, _, h9⟩ := ob_inv (o := hget h b2) h3
            rw [(cellsN_spec h9).1]; exact Nat.zero_mul n
          | sl0 b2 o2 z2 L2 a2 hL2 =>
            obtain ⟨y2, _, h9⟩ := ob_inv (o := hget h b2) h3
            rw [(cellsN_spec h9).1]; exact Nat.zero_mul n
          | _ => cases h3
        cases hv : us.toList with
        | nil => rfl
        | cons _ _ => have := g2.length; rw [hv, hl] at this; simp at this
      have hw : w' = w := by rw [hus] at k1; cases k1; rfl
      subst hw
      exact ⟨_, w', φ, key _ _ _ w' rfl rfl (by rw [hus]; rfl), .int _ _, k2, k3⟩
  · obtain ⟨h5, h6⟩ := gd_inv h4
    cases h6
    cases isNils_eq h5
    cases h1
    cases hx
    have hm : Nat.min q 0 = 0 := Nat.min_eq_right (Nat.zero_le q)
    refine ⟨_, w, φ, key none 0 0 w rfl rfl rfl, ?_, R, Grows.refl D φ h w⟩
    rw [hm]; exact .int _ _

theorem g_usd {x : Value} {v a : AV} {h' : AHeap} (R : Rep P φ h w) (D : Pos → Prop) (ts : Array TypeId) (ty : TypeId) (hx : VR φ v x) (he : onSl v (fun b o n _ => gd (Nat.ble 1 n) (some (AV.ptr b o, h))) (gd (isNils v) (some (.nilp, h))) = some (a, h')) :
    Does P D φ h w (Builtin.unsafeSliceData_ ts ty #[x]) h' a := by
  rcases onSl_or (v := v) he with ⟨b, o, k, z, rfl, h1⟩ | h1
  · obtain ⟨h2, h3⟩ := gd_inv h1
    cases h3
    have h2 : 1 ≤ k := Nat.ble_eq.mp h2
    cases hx with
    | sl _ _ _ _ cap L hL hnc hc =>
      exact ⟨_, w, φ, Lib.run_unsafeSliceData_row w ts ty _ k cap (by omega), .ptr b o L hL, R, Grows.refl D φ h w⟩
    | sl0 => omega
  · obtain ⟨h2, h3⟩ := gd_inv h1
    cases h3
    cases isNils_eq h2
    cases hx
    exact ⟨_, w, φ, Lib.run_unsafeSliceData_nil w ts ty 0 0, .nilp, R, Grows.refl D φ h w⟩
end

end Go.Ev
/-
  A small machine over closed data, twenty-five: bytes made of a string, a string made of bytes.
-/
namespace Go.Ev

section
variable {P : Program} {φ : Map} {h : AHeap} {w : World}

theorem modify_push {α : Type} (a : Array α) (x : α) (f : α → α) : (a.push x).modify a.size f = a.push (f x) := by
  apply Array.ext_getElem?
  intro i
  rw [Array.getElem?_modify, Array.getElem?_push, Array.getElem?_push]
  by_cases hi : i = a.size
  · subst hi; simp
  · rw [if_neg (Ne.symm hi), if_neg hi, if_neg hi]

theorem run_stringToBytes (e : TypeId) (bs : ByteArray) : ∃ (cap dr : Nat) (cs : Array Value), bs.size ≤ cap ∧ cs.size = cap ∧ (∀ i, i < bs.size → cs[i]? = (bs.data.toList.map fun (b : UInt8) => Value.int .u8 (b.toNat : Int))[i]?) ∧
    (Conv.stringToBytes e bs).run P w = .ok (.slice (some ⟨w.heap.size, 0, none⟩) bs.size cap) { w with heap := w.heap.push (.cells cs e (cap, cap + 1)), drawn := dr } := by
  generalize hcap : (Question.appendCap bs.size 0 e).cut (w.tape w.drawn (.appendCap bs.size 0 e)) = cap
  have hle : bs.size ≤ cap := by rw [← hcap]; exact Nat.le_add_right _ _
  refine ⟨cap, w.drawn + 1, (bs.data.map fun (b : UInt8) => Value.int .u8 (b.toNat : Int)) ++ Array.replicate (cap - bs.size) (Value.int .u8 0), hle, ?_, ?_, ?_⟩
  · have : bs.data.size = bs.size := rfl
    simp [this]; omega
  · intro i hi
    have : bs.data.size = bs.size := rfl
    rw [Array.getElem?_append_left (by simpa [this] using hi)]
    simp
  · have hs : ((bs.data.map fun (b : UInt8) => Value.int .u8 (b.toNat : Int)) ++ Array.replicate (cap - bs.size) (Value.int .u8 0)).size = cap := by
      have : bs.data.size = bs.size := rfl
      simp [this]; omega
    have hf : (Question.appendCap bs.size 0 e).forced = false := rfl
    simp only [Conv.stringToBytes, Sem.run_bind, run_choose, hf, Bool.false_eq_true, if_false, Result.andThen_ok, newRow, run_newObj, Sem.run_pure, hcap, markStringish, run_shape]
    generalize (bs.data.map fun (b : UInt8) => Value.int .u8 (b.toNat : Int)) ++ Array.replicate (cap - bs.size) (Value.int .u8 0) = cs at hs
    have h1 : ({ w with heap := w.heap.push (.cells cs e (0, 0)), drawn := w.drawn + 1 } : World).shape? w.heap.size = some (e, cap) := by
      simp [World.shape?, hs]
    rw [h1]
    simp only [run_freeze, Result.andThen_ok]
    congr 1
    simp only [World.freeze]
    rw [if_neg (by decide)]
    simp only [modify_push, beq_self_eq_true, if_true]

theorem g_s2b (R : Rep P φ h w) (D : Pos → Prop) {s d e : TypeId} (hs : P.underlying s = some .string) (hd : P.underlying d = some (.slice e)) (he8 : P.underlying e = some (.int .u8)) {x : Value} {v a : AV} {h' : AHeap} (hx : VR φ v x)
    (he : onStr v (fun s => gd (Nat.ble (len s) room) (some (AV.sl (nextOf h) 0 (len s) 1, new h (.big e (Nat.succ (len s)) (len s) [] (tset .leaf 0 (mapT (fun c => .int .u8 (.ofNat c)) s)) none)))) none = some (a, h')) :
    Does P D φ h w (convert s d x) h' a := by
  obtain ⟨l, rfl, h1⟩ := onStr_inv (v := v) he
  obtain ⟨h2, h3⟩ := gd_inv h1
  cases h3
  cases hx with
  | str _ bs hb =>
    have hsz : len l = bs.size := by rw [len_eq, ← hb, List.length_map, Array.length_toList]; rfl
    obtain ⟨cap, dr, cs, g1, g2, g3, g4⟩ := run_stringToBytes (P := P) (w := w) e bs
    obtain ⟨R1, G1, hL⟩ := R.make D (o := .big e (Nat.succ (len l)) (len l) [] (tset .leaf 0 (mapT (fun c => .int .u8 (.ofNat c)) l)) none) (x := .cells cs e (cap, cap + 1)) (csz := cap)
      (w' := { w with heap := w.heap.push (.cells cs e (cap, cap + 1)), drawn := dr }) rfl rfl
      (bigR g2 (by show 0 + len l ≤ cap; omega) (fun i u hi hu => by
        have hlen : (mapT (fun c => AV.int .u8 (.ofNat c)) l).length = len l := by rw [mapT_eq, List.length_map, len_eq]
        have := listT (vs := mapT (fun c => AV.int .u8 (.ofNat c)) l) (by omega) hu
        rw [mapT_eq, ← hb] at this
        obtain ⟨p, k1, k2⟩ := (bytes_vrs (φ := φ.put h.next ⟨w.heap.size, 0, cap⟩) bs.data.toList).get i this
        refine ⟨p, ?_, k2⟩
        rw [show (0 : Nat) + i = i by omega]
        rw [g3 i (by omega)]; exact k1) (fun hc => by omega)) rfl rfl rfl rfl
    refine ⟨.slice (some ⟨w.heap.size, 0, none⟩) bs.size cap, _, _, ?_, ?_, R1, G1⟩
    · simp only [convert, Sem.run_bind, run_underlying hs, run_underlying hd, Result.andThen_ok, run_underlying he8]
      exact g4
    · rw [nextOf_eq, hsz]
      exact .sl _ 0 bs.size 1 cap _ hL g1 (by show 0 + 0 + cap * 1 ≤ cap; omega)

structure Iced (x y : AObj) (m : Nat) : Prop where
  grp : grpOf y = none
  plain : isGrp y = false
  elem : elemOf y = elemOf x
  size : sizeOf y = sizeOf x
  fz : fzOf y = Nat.max (fzOf x) m
  small : isSmall y = false
  cell : ∀ k v, cell y k = some v → cell x k = some v
theorem icy_spec {x y : AObj} {m : Nat} (hw : icy (solo x) m = some y) : Iced x y m := by
  cases x with
  | small e l =>
    cases hw
    refine ⟨rfl, rfl, rfl, ?_, ?_, rfl, fun k v hk => ?_⟩
    · show len l = l.length
      exact len_eq l
    · show m = Nat.max 0 m
      exact (Nat.max_eq_right (Nat.zero_le m)).symm
    · obtain ⟨h5, h6⟩ := gd_inv (b := Nat.ble (Nat.succ k) (len l)) hk
      have h5 : k + 1 ≤ len l := Nat.ble_eq.mp h5
      rw [len_eq] at h5
      have := listT (by omega) h6
      show nth l k = some v
      rw [nth_eq]; exact this
  | big e fz n z t g => cases hw; exact ⟨rfl, rfl, rfl, rfl, rfl, rfl, fun k v hk => hk⟩
  | _ => cases hw

theorem liesAt_off {u : TypeId} (hc : P.cellsOf u = 1) (count off n : Nat) (hn : off + n ≤ count) : liesAt P P.depth u count off u n = true := by
  have hd : P.depth = (2 * (P.types.size + Made.depth) + 1) + 1 := rfl
  rw [hd]
  simp only [liesAt, Bool.or_eq_true]
  left
  rw [hd]
  simp [rowAt, hc, hn, sameLayout, Nat.mod_one]

theorem bytesOf_inv : ∀ {l : List AV} {s : List Nat}, bytesOf l = some s → ∃ bl : List UInt8, s = bl.map (·.toNat) ∧ l = bl.map fun b => AV.int .u8 (.ofNat b.toNat) := by
  intro l
  induction l with
  | nil => intro s h; cases (show some [] = some s from h); exact ⟨[], rfl, rfl⟩
  | cons v l ih =>
    intro s h
    obtain ⟨c, h1, h2⟩ := ob_inv (show ob (onInt v (fun k n => gd (keq k .u8) (onNat n (fun c => gd (Nat.ble c 255) (some c)) none)) none) (fun v => ob (bytesOf l) fun vs => some (v :: vs)) = some s from h)
    obtain ⟨r, h3, h4⟩ := ob_inv h2
    cases h4
    obtain ⟨k, n, rfl, h5⟩ := onInt_inv (v := v) h1
    obtain ⟨h6, h7⟩ := gd_inv (b := keq k .u8) h5
    obtain ⟨q, rfl, h8⟩ := onNat_inv h7
    obtain ⟨h9, h10⟩ := gd_inv (b := Nat.ble q 255) h8
    cases h10
    have h9 : c ≤ 255 := Nat.ble_eq.mp h9
    have hk : k = .u8 := by cases k <;> first | rfl | cases h6
    subst hk
    obtain ⟨bl, g1, g2⟩ := ih h3
    refine ⟨c.toUInt8 :: bl, ?_, ?_⟩
    · have : c.toUInt8.toNat = c := by simp; omega
      simp only [List.map_cons, this, g1]
    · have : c.toUInt8.toNat = c := by simp; omega
      simp only [List.map_cons, this]
      rw [← g2]
theorem bytes_back : ∀ {bl : List UInt8} {us : List Value}, VRs φ (bl.map fun b => AV.int .u8 (.ofNat b.toNat)) us → us = bl.map fun b => Value.int .u8 b.toNat := by
  intro bl
  induction bl with
  | nil => intro us h; cases h; rfl
  | cons x l ih =>
    intro us h
    cases h with
    | cons _ u _ us h1 h2 =>
      cases h1
      rw [ih h2]; rfl

theorem cellsOf_one {u : TypeId} (hu : szT P u = some 1) : P.cellsOf u = 1 := by
  unfold szT at hu
  unfold Program.cellsOf
  split at hu
  · rename_i i hi; rw [hi]; exact Option.some.inj hu
  · cases hu
theorem isElem_inv {x : AObj} {u : TypeId} (h : isElem x u = true) : elemOf x = some u := by
  cases x with
  | small e l => exact congrArg some (Nat.eq_of_beq_eq_true h)
  | big e fz n z t g => exact congrArg some (Nat.eq_of_beq_eq_true h)
  | _ => cases h
theorem sizeO_eq (x : AObj) : sizeO x = sizeOf x := by
  cases x with
  | small e l => exact len_eq l
  | _ => rfl
theorem fzO_eq (x : AObj) : fzO x = fzOf x := by cases x <;> rfl
theorem elem_of_cells {x : AObj} {u : TypeId} (R : Rep P φ h w) {b : Pos} {L : Loc} (hb : h.t.get b = some x) (hL : φ b = some L) (he : elemOf x = some u) : ∃ c lo hi, w.heap[L.blk]? = some (.cells c u (lo, hi)) ∧ CellsR φ x L c lo hi := by
  obtain ⟨z, h1, h2⟩ := R.obj b x L hb hL
  cases h2 with
  | cells _ _ e c lo hi he' h => rw [he'] at he; cases he; exact ⟨c, lo, hi, h1, h⟩
  | _ => cases he

theorem freeze_eq {w : World} {β o n : Nat} {c : Array Value} {e : TypeId} {lo hi : Nat} (hb : w.heap[β]? = some (.cells c e (lo, hi))) (hn : n ≠ 0) :
    w.freeze ⟨β, o, none⟩ n = { w with heap := w.heap.setIfInBounds β (.cells c e (if lo == hi then (o, o + n) else (min lo o, max hi (o + n)))) } := by
  have hlt : β < w.heap.size := (Array.getElem?_eq_some_iff.mp hb).1
  simp only [World.freeze, if_neg hn]
  congr 1
  apply Array.ext_getElem?
  intro k
  rw [Array.getElem?_modify]
  by_cases hk : β = k
  · subst hk; rw [if_pos rfl, hb, Array.getElem?_setIfInBounds_self_of_lt hlt]; rfl
  · rw [if_neg hk, Array.getElem?_setIfInBounds_ne hk]

theorem g_ust (R : Rep P φ h w) (D : Pos → Prop) {tp ty u : TypeId} {ts : List TypeId} (hu : P.underlying tp = some (.pointer u)) (h1 : szT P u = some 1) {x y : Value} {p n a : AV} {h' : AHeap} (hx : VR φ p x) (hy : VR φ n y)
    (he : (ob (nat n) fun n => gd (Nat.ble n room) (onPtr p (fun b o => bi (Nat.beq n 0) (some (AV.str [], h)) (onHeap h fun t next => ob (t.get b) fun x => gd (isElem x u) (gd (Nat.ble (fzO x) (sizeO x)) (ob (cellsN x o n) fun l => ob (bytesOf l) fun s =>
      ob (icy (solo x) (Nat.add o n)) fun y => some (.str s, ⟨(alone x t).set y b, next⟩))))) (gd (isNilp p) (gd (Nat.beq n 0) (some (.str [], h)))))) = some (a, h')) :
    Does P D φ h w (Builtin.unsafeString_ (tp :: ts).toArray ty #[x, y]) h' a := by
  obtain ⟨m, h2, he1⟩ := ob_inv he
  obtain ⟨h3', he2⟩ := gd_inv he1
  have h3 : m ≤ room := Nat.ble_eq.mp h3'
  have hroom : room = 1048576 := rfl
  obtain ⟨k, rfl⟩ := nat_inv h2
  cases hy
  have c1 : ¬ ((Int.ofNat m) < 0) := by show ¬ ((m : Int) < 0); omega
  have c2 : ¬ ((Int.ofNat m) > IntKind.i64.max) := by
    have hmax : IntKind.i64.max = 9223372036854775807 := rfl
    rw [hmax]; show ¬ ((9223372036854775807 : Int) < (m : Int)); omega
  have hempty : VR φ (.str []) (.string .empty) := .str _ _ rfl
  have ht : ((tp :: ts).toArray : Array TypeId)[0]? = some tp := by simp
  rcases onPtr_or (v := p) he2 with ⟨b, o, rfl, h4⟩ | h4
  · cases hx with
    | ptr _ _ L hL =>
      by_cases h0 : m = 0
      · subst h0
        have h4 : some (AV.str [], h) = some (a, h') := h4
        cases h4
        refine ⟨.string .empty, w, φ, ?_, hempty, R, Grows.refl D φ h w⟩
        have c0 : (Int.ofNat 0) = 0 := rfl
        refine (Sem.run_bind P w (asInt (.int k (Int.ofNat 0))) _).trans ?_
        simp only [asInt, asIntOf, Sem.run_bind, Sem.run_pure, Result.andThen_ok, ht, if_neg c1, if_neg c2, if_pos c0]
      · have h4 : bi (Nat.beq m 0) _ (onHeap h fun t next => ob (t.get b) fun x => gd (isElem x u) (gd (Nat.ble (fzO x) (sizeO x)) (ob (cellsN x o m) fun l => ob (bytesOf l) fun s =>
          ob (icy (solo x) (Nat.add o m)) fun y => some (AV.str s, (⟨(Ev.alone x t).set y b, next⟩ : AHeap))))) = some (a, h') := h4
        rw [show Nat.beq m 0 = false by rw [← Bool.not_eq_true, Nat.beq_eq]; exact h0, bi_false] at h4
        have h5 : (ob (h.t.get b) fun x => gd (isElem x u) (gd (Nat.ble (fzO x) (sizeO x)) (ob (cellsN x o m) fun l => ob (bytesOf l) fun s =>
          ob (icy (solo x) (Nat.add o m)) fun y => some (AV.str s, (⟨(Ev.alone x h.t).set y b, h.next⟩ : AHeap))))) = some (a, h') := by cases h; exact h4
        obtain ⟨z, k1, h6⟩ := ob_inv h5
        obtain ⟨k2, h7⟩ := gd_inv h6
        obtain ⟨k3, h8⟩ := gd_inv h7
        obtain ⟨l, k4, h9⟩ := ob_inv h8
        obtain ⟨s, k5, h10⟩ := ob_inv h9
        obtain ⟨y, k6, h11⟩ := ob_inv h10
        cases h11
        have I := icy_spec k6
        have k3 : fzO z ≤ sizeO z := Nat.ble_eq.mp k3
        rw [fzO_eq, sizeO_eq] at k3
        obtain ⟨c, lo, hi, g1, C⟩ := elem_of_cells R k1 hL (isElem_inv k2)
        obtain ⟨us, g2, g3, g4⟩ := read_cells R k1 hL k4
        obtain ⟨bl, g5, g6⟩ := bytesOf_inv k5
        subst g6
        have g7 := bytes_back g3
        have hbl : bl.length = m := by rw [← g2, g7]; simp
        have hsz : o + m ≤ sizeOf z := by
          have := cellsN_spec k4
          have := cell_lt (v := AV.int .u8 (.ofNat (bl[m - 1]'(by omega)).toNat)) (this.2 (m - 1) (by omega) |>.trans (by rw [List.getElem?_map, List.getElem?_eq_getElem (by omega)]; rfl))
          omega
        have hfits := C.fits
        have hcs := C.size
        have hz : w.freeze ⟨L.blk, L.off + o, none⟩ m = { w with heap := w.heap.setIfInBounds L.blk (.cells c u (if lo == hi then (L.off + o, L.off + o + m) else (min lo (L.off + o), max hi (L.off + o + m)))) } := freeze_eq g1 h0
        have hy : ObjR P φ y L (.cells c u (if lo == hi then (L.off + o, L.off + o + m) else (min lo (L.off + o), max hi (L.off + o + m)))) := by
          have key : ∀ lo' hi', hi' ≤ L.off + fzOf y → ObjR P φ y L (.cells c u (lo', hi')) := by
            intro lo' hi' hle
            refine .cells y L u c lo' hi' (by rw [I.elem]; exact isElem_inv k2) ⟨hcs, by rw [I.size]; exact hfits, fun i v hv => C.cell i v (I.cell i v hv), fun hs => (by rw [I.small] at hs; cases hs), fun _ => .inr hle⟩
          have hfz : fzOf y = Nat.max (fzOf z) (o + m) := I.fz
          have m1 : fzOf z ≤ fzOf y := by rw [hfz]; exact Nat.le_max_left _ _
          have m2 : o + m ≤ fzOf y := by rw [hfz]; exact Nat.le_max_right _ _
          by_cases hlh : lo = hi
          · subst hlh
            rw [beq_self_eq_true, if_pos rfl]
            exact key _ _ (by omega)
          · rw [if_neg (by simpa using hlh)]
            have := (C.warm k3).resolve_left hlh
            exact key _ _ (by omega)
        refine ⟨.string ⟨⟨bl⟩⟩, w.freeze ⟨L.blk, L.off + o, none⟩ m, φ, ?_, ?_, ?_, ?_⟩
        · have c0 : ¬ ((Int.ofNat m) = 0) := by show ¬ ((m : Int) = 0); omega
          have hm : (Int.ofNat m).toNat = m := rfl
          have hel : (Go.elemOf tp).run P w = .ok u w := by simp [Go.elemOf, run_underlying hu]
          have hva : (variablesAt ⟨L.blk, L.off + o, none⟩ u m).run P w = .ok true w := by
            have hsh : w.shape? L.blk = some (u, c.size) := shape_of g1
            simp only [variablesAt, Sem.run_bind, run_program, Result.andThen_ok, run_shape, hsh, Sem.run_pure, cellsOf_one h1, Nat.div_one]
            rw [liesAt_off (cellsOf_one h1) _ _ _ (by omega)]
          have hlo := Lib.run_loadBytes (P := P) w bl ⟨L.blk, L.off + o, none⟩ .empty (fun j x hj => by
            rw [addr_add]
            have hjl : j < m := by rw [← hbl]; exact (List.getElem?_eq_some_iff.mp hj).1
            rw [g4 j hjl, g7, List.getElem?_map, hj]; rfl)
          rw [hbl] at hlo
          refine (Sem.run_bind P w (asInt (.int k (Int.ofNat m))) _).trans ?_
          simp only [asInt, asIntOf, Sem.run_bind, Sem.run_pure, Result.andThen_ok, ht, if_neg c1, if_neg c2, if_neg c0, hm, hel, hva, if_true, hlo, run_freeze]
          simp
        · rw [g5]; exact .str _ _ rfl
        · rw [hz]; exact R.write k1 hL I.grp I.plain hy rfl
        · rw [hz]; exact R.written D k1 hL rfl rfl rfl rfl
  · obtain ⟨h5, h6⟩ := gd_inv h4
    obtain ⟨h7, h8⟩ := gd_inv h6
    cases h8
    cases isNilp_eq h5
    have h0 := Nat.eq_of_beq_eq_true h7
    subst h0
    cases hx
    refine ⟨.string .empty, w, φ, ?_, hempty, R, Grows.refl D φ h w⟩
    have c0 : (Int.ofNat 0) = 0 := rfl
    refine (Sem.run_bind P w (asInt (.int k (Int.ofNat 0))) _).trans ?_
    simp only [asInt, asIntOf, Sem.run_bind, Sem.run_pure, Result.andThen_ok, ht, if_neg c1, if_neg c2, if_pos c0]
end

end Go.Ev
/-
  A small machine over closed data, twenty-six: a further block, which may share memory with others of its group.
-/
namespace Go.Ev

section
variable {P : Program} {φ : Map} {h : AHeap} {w w' : World}

/-- a further block, in a block that the model makes, or in one that is there already -/
theorem Rep.add (R : Rep P φ h w) {q : Pos} {y : AObj} {o : Obj} {M : Loc} (hq : h.t.get q = none) (hn : φ q = none) (hlt : q.toNat < h.next.toNat) (hi : isGrp y = false)
    (hgl : ∀ g, grpOf y = some g → ∃ l, h.t.get g = some (.grp l) ∧ q ∈ l) (hls : ∀ g l, h.t.get g = some (.grp l) → q ∈ l → grpOf y = some g) (hy : ObjR P (φ.put q M) y M o)
    (hM : M.blk < w'.heap.size) (hs : w.heap.size ≤ w'.heap.size) (ho : w'.heap[M.blk]? = some o) (hk : ∀ β, β < w.heap.size → β ≠ M.blk → w'.heap[β]? = w.heap[β]?)
    (hsh : ∀ c z N, h.t.get c = some z → φ c = some N → N.blk = M.blk → N.off = M.off ∧ (∃ g, grpOf z = some g ∧ grpOf y = some g) ∧ ObjR P φ z N o) :
    Rep P (φ.put q M) ⟨h.t.set y q, h.next⟩ w' := by
  have hle := φ.le_put q M hn
  have hget : ∀ c z, (h.t.set y q).get c = some z → (c = q ∧ z = y) ∨ (c ≠ q ∧ h.t.get c = some z) := by
    intro c z hc
    rw [T.get_set] at hc
    split at hc
    · rename_i he; cases hc; exact .inl ⟨he.symm, rfl⟩
    · rename_i he; exact .inr ⟨Ne.symm he, hc⟩
  refine ⟨?_, ?_, ?_, ?_, ?_, ?_, ?_⟩
  · intro c z hc
    rcases hget c z hc with ⟨rfl, rfl⟩ | ⟨_, hc⟩
    · exact hlt
    · exact R.low _ _ hc
  · intro c N hN
    by_cases he : q = c
    · subst he; rw [φ.put_same] at hN; cases hN; exact ⟨hlt, hM⟩
    · rw [φ.put_other M he] at hN
      have := R.dom c N hN
      exact ⟨this.1, by omega⟩
  · intro c z N hc hN
    rcases hget c z hc with ⟨rfl, rfl⟩ | ⟨hne, hc⟩
    · rw [φ.put_same] at hN; cases hN; exact ⟨o, ho, hy⟩
    · rw [φ.put_other M (Ne.symm hne)] at hN
      by_cases hb : N.blk = M.blk
      · exact ⟨o, by rw [hb]; exact ho, (hsh c z N hc hN hb).2.2.mono hle⟩
      · obtain ⟨u, h1, h2⟩ := R.obj c z N hc hN
        exact ⟨u, by rw [hk _ (R.dom c N hN).2 hb]; exact h1, h2.mono hle⟩
  · intro c z hc hz
    rcases hget c z hc with ⟨rfl, rfl⟩ | ⟨hne, hc⟩
    · rw [hi] at hz; cases hz
    · rw [φ.put_other M (Ne.symm hne)]; exact R.grp c z hc hz
  · intro c d x z A B hc hd hA hB he
    rcases hget c x hc with ⟨rfl, rfl⟩ | ⟨hne, hc1⟩
    · rw [φ.put_same] at hA; cases hA
      rcases hget d z hd with ⟨rfl, rfl⟩ | ⟨hne2, hd1⟩
      · exact .inl rfl
      · rw [φ.put_other M (Ne.symm hne2)] at hB
        obtain ⟨h1, ⟨g, h2, h3⟩, _⟩ := hsh d z B hd1 hB he.symm
        exact .inr ⟨g, h3, h2, h1.symm⟩
    · rw [φ.put_other M (Ne.symm hne)] at hA
      rcases hget d z hd with ⟨rfl, rfl⟩ | ⟨hne2, hd1⟩
      · rw [φ.put_same] at hB; cases hB
        obtain ⟨h1, ⟨g, h2, h3⟩, _⟩ := hsh c x A hc1 hA he
        exact .inr ⟨g, h2, h3, h1⟩
      · rw [φ.put_other M (Ne.symm hne2)] at hB
        exact R.alone c d x z A B hc1 hd1 hA hB he
  · intro g l c hg hcl
    rcases hget g _ hg with ⟨rfl, rfl⟩ | ⟨hne, hg1⟩
    · cases hi
    · obtain ⟨h1, h2⟩ := R.listed g l c hg1 hcl
      refine ⟨h1, fun z hc => ?_⟩
      rcases hget c z hc with ⟨rfl, rfl⟩ | ⟨_, hc⟩
      · exact hls g l hg1 hcl
      · exact h2 z hc
  · intro c z g hc hz
    have key : ∀ l, h.t.get g = some (.grp l) → (h.t.set y q).get g = some (.grp l) := by
      intro l hl
      rw [T.get_set, if_neg]
      · exact hl
      · rintro rfl; rw [hq] at hl; cases hl
    rcases hget c z hc with ⟨rfl, rfl⟩ | ⟨_, hc⟩
    · obtain ⟨l, h1, h2⟩ := hgl g hz
      exact ⟨l, key l h1, h2⟩
    · obtain ⟨l, h1, h2⟩ := R.member c z g hc hz
      exact ⟨l, key l h1, h2⟩

/-- what is no longer known -/
theorem Rep.less (R : Rep P φ h w) {t' : T AObj} {next' : Pos} (hn : h.next.toNat ≤ next'.toNat) (hsub : ∀ c z, t'.get c = some z → h.t.get c = some z)
    (hg : ∀ c z g l, t'.get c = some z → grpOf z = some g → h.t.get g = some (.grp l) → t'.get g = some (.grp l)) : Rep P φ ⟨t', next'⟩ w where
  low := fun b o hb => Nat.lt_of_lt_of_le (R.low b o (hsub b o hb)) hn
  dom := fun b L hb => ⟨Nat.lt_of_lt_of_le (R.dom b L hb).1 hn, (R.dom b L hb).2⟩
  obj := fun b o L hb hL => R.obj b o L (hsub b o hb) hL
  grp := fun b o hb hi => R.grp b o (hsub b o hb) hi
  alone := fun b c x y L M hb hc hL hM he => R.alone b c x y L M (hsub b x hb) (hsub c y hc) hL hM he
  listed := fun g l b hgl hbl => ⟨Nat.lt_of_lt_of_le (R.listed g l b (hsub g _ hgl) hbl).1 hn, fun x hb => (R.listed g l b (hsub g _ hgl) hbl).2 x (hsub b x hb)⟩
  member := fun b x g hb hx => by
    obtain ⟨l, h1, h2⟩ := R.member b x g (hsub b x hb) hx
    exact ⟨l, hg b x g l hb hx h1, h2⟩

/-- the same block, in a group -/
theorem ObjR.regroup {e : TypeId} {fz n : Nat} {z : List AV} {t : T AV} {g g' : Option Pos} {L : Loc} {o : Obj} (H : ObjR P φ (.big e fz n z t g) L o) : ObjR P φ (.big e fz n z t g') L o := by
  cases H with
  | cells _ _ e' c lo hi he C => exact .cells _ L e' c lo hi he ⟨C.size, C.fits, C.cell, fun h => (by cases h), C.warm⟩

/-- a block of its own becomes one of a new group, in which there is a place for one more -/
theorem Rep.group1 (R : Rep P φ h w) {b q q2 : Pos} {e : TypeId} {fz n : Nat} {z : List AV} {t : T AV} (hb : h.t.get b = some (.big e fz n z t none)) (hq : h.next.toNat < q.toNat) (hq2 : q.toNat < q2.toNat) :
    Rep P φ ⟨(h.t.set (.grp [q, b]) h.next).set (.big e fz n z t (some h.next)) b, q2⟩ w := by
  have hbl := R.low b _ hb
  have hget : ∀ c x, ((h.t.set (.grp [q, b]) h.next).set (.big e fz n z t (some h.next)) b).get c = some x → (c = b ∧ x = .big e fz n z t (some h.next)) ∨ (c = h.next ∧ x = .grp [q, b]) ∨ (c ≠ b ∧ c ≠ h.next ∧ h.t.get c = some x) := by
    intro c x hc
    rw [T.get_set, T.get_set] at hc
    split at hc
    · rename_i he; cases hc; exact .inl ⟨he.symm, rfl⟩
    · rename_i he
      split at hc
      · rename_i he2; cases hc; exact .inr (.inl ⟨he2.symm, rfl⟩)
      · rename_i he2; exact .inr (.inr ⟨Ne.symm he, Ne.symm he2, hc⟩)
  have hnx : φ h.next = none := by
    cases hφ : φ h.next with
    | none => rfl
    | some L => have := (R.dom _ L hφ).1; omega
  refine ⟨?_, ?_, ?_, ?_, ?_, ?_, ?_⟩
  · intro c x hc
    rcases hget c x hc with ⟨rfl, rfl⟩ | ⟨rfl, rfl⟩ | ⟨_, _, hc⟩
    · show c.toNat < q2.toNat; omega
    · show h.next.toNat < q2.toNat; omega
    · have := R.low c x hc; show c.toNat < q2.toNat; omega
  · intro c L hc
    have := R.dom c L hc
    exact ⟨by show c.toNat < q2.toNat; omega, this.2⟩
  · intro c x L hc hL
    rcases hget c x hc with ⟨rfl, rfl⟩ | ⟨rfl, rfl⟩ | ⟨_, _, hc⟩
    · obtain ⟨o, h1, h2⟩ := R.obj c _ L hb hL
      exact ⟨o, h1, h2.regroup⟩
    · rw [hnx] at hL; cases hL
    · exact R.obj c x L hc hL
  · intro c x hc hi
    rcases hget c x hc with ⟨rfl, rfl⟩ | ⟨rfl, rfl⟩ | ⟨_, _, hc⟩
    · cases hi
    · exact hnx
    · exact R.grp c x hc hi
  · intro c d x y L M hc hd hL hM he
    have old : ∀ c x, ((h.t.set (.grp [q, b]) h.next).set (.big e fz n z t (some h.next)) b).get c = some x → (∃ L, φ c = some L) → ∃ x', h.t.get c = some x' ∧ (c = b ∧ grpOf x' = none ∨ x' = x) := by
      intro c x hc hL
      rcases hget c x hc with ⟨rfl, rfl⟩ | ⟨rfl, rfl⟩ | ⟨_, _, hc⟩
      · exact ⟨_, hb, .inl ⟨rfl, rfl⟩⟩
      · obtain ⟨L, hL⟩ := hL; rw [hnx] at hL; cases hL
      · exact ⟨x, hc, .inr rfl⟩
    obtain ⟨x', h1, h2⟩ := old c x hc ⟨L, hL⟩
    obtain ⟨y', h3, h4⟩ := old d y hd ⟨M, hM⟩
    rcases R.alone c d x' y' L M h1 h3 hL hM he with h5 | ⟨g, h5, h6, h7⟩
    · exact .inl h5
    · rcases h2 with ⟨_, h2⟩ | rfl
      · rw [h2] at h5; cases h5
      · rcases h4 with ⟨_, h4⟩ | rfl
        · rw [h4] at h6; cases h6
        · exact .inr ⟨g, h5, h6, h7⟩
  · intro g l c hg hcl
    rcases hget g _ hg with ⟨rfl, h1⟩ | ⟨rfl, h1⟩ | ⟨hgb, hgn, hg1⟩
    · cases h1
    · cases h1
      have hc : c = q ∨ c = b := by simpa using hcl
      refine ⟨by rcases hc with rfl | rfl <;> (show _ < q2.toNat) <;> omega, fun x hx => ?_⟩
      rcases hget c x hx with ⟨rfl, rfl⟩ | ⟨rfl, rfl⟩ | ⟨h2, h3, hc1⟩
      · rfl
      · rcases hc with h4 | h4
        · rw [← h4] at hq; omega
        · rw [← h4] at hbl; omega
      · rcases hc with rfl | rfl
        · have := R.low c x hc1; omega
        · exact absurd rfl h2
    · obtain ⟨h2, h3⟩ := R.listed g l c hg1 hcl
      refine ⟨by show _ < q2.toNat; omega, fun x hx => ?_⟩
      rcases hget c x hx with ⟨rfl, rfl⟩ | ⟨rfl, rfl⟩ | ⟨_, _, hc1⟩
      · have := h3 _ hb; cases this
      · omega
      · exact h3 x hc1
  · intro c x g hc hx
    rcases hget c x hc with ⟨rfl, rfl⟩ | ⟨rfl, rfl⟩ | ⟨h1, h2, hc1⟩
    · cases hx
      refine ⟨[q, c], ?_, by simp⟩
      rw [T.get_set, if_neg (by rintro rfl; omega), T.get_set, if_pos rfl]
    · cases hx
    · obtain ⟨l, h3, h4⟩ := R.member c x g hc1 hx
      refine ⟨l, ?_, h4⟩
      rw [T.get_set, if_neg (by rintro rfl; rw [hb] at h3; cases h3), T.get_set, if_neg (by rintro rfl; have := R.low _ _ h3; omega)]
      exact h3
end

end Go.Ev
/-
  A small machine over closed data, twenty-seven: which blocks of a group stay known.
-/
namespace Go.Ev

structure Kept (m : Nat) (t : T AObj) (l : List Pos) (t1 : T AObj) (l1 : List Pos) : Prop where
  sub : ∀ c x, t1.get c = some x → t.get c = some x
  fit : ∀ c x, t1.get c = some x → c ∈ l → c ∈ l1 ∧ sizeOf x ≤ m
  list : ∀ c, c ∈ l1 → c ∈ l
  rest : ∀ c, c ∉ l → t1.get c = t.get c
theorem Kept.dropped {m : Nat} {t : T AObj} {p : Pos} {l : List Pos} {t1 : T AObj} {l1 : List Pos} (H : Kept m (t.del p) l t1 l1) : Kept m t (p :: l) t1 l1 := by
  have hd : ∀ c x, (t.del p).get c = some x → c ≠ p ∧ t.get c = some x := by
    intro c x hc
    rw [T.get_del] at hc
    split at hc
    · cases hc
    · rename_i he; exact ⟨Ne.symm he, hc⟩
  refine ⟨fun c x hc => (hd c x (H.sub c x hc)).2, fun c x hc hm => ?_, fun c hc => List.mem_cons_of_mem _ (H.list c hc), fun c hc => ?_⟩
  · have hne := (hd c x (H.sub c x hc)).1
    exact H.fit c x hc ((List.mem_cons.mp hm).resolve_left hne)
  · have h1 : c ≠ p := fun h => hc (h ▸ List.mem_cons_self)
    have h2 : c ∉ l := fun h => hc (List.mem_cons_of_mem _ h)
    rw [H.rest c h2, T.get_del, if_neg (Ne.symm h1)]
theorem keepG_spec (m : Nat) : ∀ (l : List Pos) (k : Nat) (t : T AObj), Kept m t l (keepG m k t l).1 (keepG m k t l).2 := by
  intro l
  induction l with
  | nil => intro k t; cases k <;> exact ⟨fun _ _ h => h, fun _ _ _ h => (by simp at h), fun _ h => h, fun _ _ => rfl⟩
  | cons p l ih =>
    intro k t
    cases k with
    | zero => exact (ih 0 (t.del p)).dropped
    | succ k =>
      cases hp : t.get p with
      | none =>
        have : keepG m (k + 1) t (p :: l) = keepG m (k + 1) (t.del p) l := by simp only [keepG, hp]
        rw [this]; exact (ih (k + 1) (t.del p)).dropped
      | some x =>
        cases x with
        | big e fz n z u g =>
          cases hn : Nat.ble n m with
          | true =>
            have : keepG m (k + 1) t (p :: l) = ((keepG m k t l).1, p :: (keepG m k t l).2) := by simp only [keepG, hp, hn]
            rw [this]
            have H := ih k t
            refine ⟨H.sub, fun c x hc hm => ?_, fun c hc => ?_, fun c hc => H.rest c fun h => hc (List.mem_cons_of_mem _ h)⟩
            · by_cases hcl : c ∈ l
              · obtain ⟨h1, h2⟩ := H.fit c x hc hcl
                exact ⟨List.mem_cons_of_mem _ h1, h2⟩
              · have hcp : c = p := (List.mem_cons.mp hm).resolve_right hcl
                subst hcp
                have := H.sub c x hc
                rw [hp] at this; cases this
                exact ⟨List.mem_cons_self, Nat.ble_eq.mp hn⟩
            · rcases List.mem_cons.mp hc with rfl | hc
              · exact List.mem_cons_self
              · exact List.mem_cons_of_mem _ (H.list c hc)
          | false =>
            have : keepG m (k + 1) t (p :: l) = keepG m (k + 1) (t.del p) l := by simp only [keepG, hp, hn]
            rw [this]; exact (ih (k + 1) (t.del p)).dropped
        | _ =>
          have : keepG m (k + 1) t (p :: l) = keepG m (k + 1) (t.del p) l := by simp only [keepG, hp]
          rw [this]; exact (ih (k + 1) (t.del p)).dropped

section
variable {P : Program} {φ : Map} {h : AHeap} {w : World}

/-- a group loses some of its blocks, and gets a place for one more -/
theorem Rep.groupN (R : Rep P φ h w) {g0 q q2 : Pos} {l l1 : List Pos} {t1 : T AObj} {m : Nat} (hg0 : h.t.get g0 = some (.grp l)) (K : Kept m h.t l t1 l1) (hq : h.next.toNat ≤ q.toNat) (hq2 : q.toNat < q2.toNat) :
    Rep P φ ⟨t1.set (.grp (q :: l1)) g0, q2⟩ w := by
  have hget : ∀ c x, (t1.set (.grp (q :: l1)) g0).get c = some x → (c = g0 ∧ x = .grp (q :: l1)) ∨ (c ≠ g0 ∧ t1.get c = some x ∧ h.t.get c = some x) := by
    intro c x hc
    rw [T.get_set] at hc
    split at hc
    · rename_i he; cases hc; exact .inl ⟨he.symm, rfl⟩
    · rename_i he; exact .inr ⟨Ne.symm he, hc, K.sub c x hc⟩
  have hgn : φ g0 = none := R.grp g0 _ hg0 rfl
  have hgl := R.low g0 _ hg0
  refine ⟨?_, ?_, ?_, ?_, ?_, ?_, ?_⟩
  · intro c x hc
    rcases hget c x hc with ⟨rfl, rfl⟩ | ⟨_, _, hc⟩
    · show c.toNat < q2.toNat; omega
    · have := R.low c x hc; show c.toNat < q2.toNat; omega
  · intro c L hc
    have := R.dom c L hc
    exact ⟨by show c.toNat < q2.toNat; omega, this.2⟩
  · intro c x L hc hL
    rcases hget c x hc with ⟨rfl, rfl⟩ | ⟨_, _, hc⟩
    · rw [hgn] at hL; cases hL
    · exact R.obj c x L hc hL
  · intro c x hc hi
    rcases hget c x hc with ⟨rfl, rfl⟩ | ⟨_, _, hc⟩
    · exact hgn
    · exact R.grp c x hc hi
  · intro c d x y L M hc hd hL hM he
    rcases hget c x hc with ⟨rfl, rfl⟩ | ⟨_, _, hc⟩
    · rw [hgn] at hL; cases hL
    · rcases hget d y hd with ⟨rfl, rfl⟩ | ⟨_, _, hd⟩
      · rw [hgn] at hM; cases hM
      · exact R.alone c d x y L M hc hd hL hM he
  · intro g l' c hg hcl
    rcases hget g _ hg with ⟨rfl, h1⟩ | ⟨hne, _, hg1⟩
    · cases h1
      rcases List.mem_cons.mp hcl with rfl | hcl
      · refine ⟨hq2, fun x hx => ?_⟩
        rcases hget c x hx with ⟨rfl, rfl⟩ | ⟨_, _, hx⟩
        · omega
        · have := R.low c x hx; omega
      · obtain ⟨h2, h3⟩ := R.listed g l c hg0 (K.list c hcl)
        refine ⟨by show c.toNat < q2.toNat; omega, fun x hx => ?_⟩
        rcases hget c x hx with ⟨rfl, rfl⟩ | ⟨_, _, hx⟩
        · have := h3 _ hg0; cases this
        · exact h3 x hx
    · obtain ⟨h2, h3⟩ := R.listed g l' c hg1 hcl
      refine ⟨by show c.toNat < q2.toNat; omega, fun x hx => ?_⟩
      rcases hget c x hx with ⟨rfl, rfl⟩ | ⟨_, _, hx⟩
      · have := h3 _ hg0; cases this
      · exact h3 x hx
  · intro c x g hc hx
    rcases hget c x hc with ⟨rfl, rfl⟩ | ⟨hne, hc1, hc2⟩
    · cases hx
    · obtain ⟨l', h1, h2⟩ := R.member c x g hc2 hx
      by_cases hg : g = g0
      · subst hg
        rw [hg0] at h1; cases h1
        exact ⟨q :: l1, by rw [T.get_set, if_pos rfl], List.mem_cons_of_mem _ (K.fit c x hc1 h2).1⟩
      · refine ⟨l', ?_, h2⟩
        rw [T.get_set, if_neg (Ne.symm hg), K.rest g, h1]
        intro hgl'
        have := (R.listed g0 l g hg0 hgl').2 _ h1
        cases this
end

end Go.Ev
/-
  A small machine over closed data, twenty-eight: the model's append.
-/
namespace Go.Ev

section
variable {P : Program} {φ : Map} {h : AHeap} {w : World}

/-- the second argument is a slice or a string -/
noncomputable def Src (P : Program) (t : TypeId) : Prop := (∃ e, P.underlying t = some (.slice e)) ∨ P.underlying t = some .string
theorem run_zeros {t : TypeId} (ht : Src P t) : (do pure ((← underlying t) matches .int _) : Sem Bool).run P w = .ok false w := by
  rcases ht with ⟨e, hu⟩ | hu <;> simp [run_underlying hu]

theorem run_append_in {ts tx ty e : TypeId} {n k m cap : Nat} {base : Option Addr} {x : Value} {us : Array Value} {w' : World} (hu : P.underlying ts = some (.slice e)) (ht : Src P tx) (hn : szT P e = some n) (hl : (Builtin.lenOf x).run P w = .ok m w)
    (hf : (Builtin.firstCells n m x).run P w = .ok us w) (hle : k + m ≤ cap) (hs : (match base with | some a => storeCells (a.add (k * n)) us.toList | none => pure ()).run P w = .ok () w') :
    (Builtin.append_ #[ts, tx] ty #[.slice base k cap, x]).run P w = .ok (.slice base (k + m) cap) w' := by
  rcases ht with ⟨e2, ht⟩ | ht
  all_goals
    cases base with
    | none =>
      cases hs
      simp [Builtin.append_, run_underlying hu, run_underlying ht, run_sizeOf hn, hl, hf, hle]
    | some a =>
      have hs : (storeCells (a.add (k * n)) us.toList).run P w = .ok () w' := hs
      simp [Builtin.append_, run_underlying hu, run_underlying ht, run_sizeOf hn, hl, hf, hle, hs]

theorem growBy_le (need : Nat) : ∀ (r c : Nat), c ≤ 2 * need + 1000 → Builtin.growBy need r c ≤ 2 * need + 1000 := by
  intro r
  induction r with
  | zero => intro c hc; exact hc
  | succ r ih =>
    intro c hc
    unfold Builtin.growBy
    split
    · exact hc
    · refine ih _ ?_
      omega
theorem next_le {need cap : Nat} (hc : cap < need) : Builtin.nextslicecap need cap ≤ 2 * need + 1000 := by
  unfold Builtin.nextslicecap
  split
  · omega
  · split
    · omega
    · exact growBy_le need 4 cap (by omega)

theorem run_append_new {ts tx ty e : TypeId} {n k m cap bytes : Nat} {base : Option Addr} {x z : Value} {us os : Array Value} (hu : P.underlying ts = some (.slice e)) (ht : Src P tx) (hn : szT P e = some n) (hb : bytesT P e = some bytes)
    (hl : (Builtin.lenOf x).run P w = .ok m w) (hz : (zeroValue e).run P { w with drawn := w.drawn + 1 } = .ok z { w with drawn := w.drawn + 1 })
    (hf : (Builtin.firstCells n m x).run P { w with drawn := w.drawn + 1 } = .ok us { w with drawn := w.drawn + 1 }) (ho : (Builtin.firstCells n k (.slice base k cap)).run P { w with drawn := w.drawn + 1 } = .ok os { w with drawn := w.drawn + 1 })
    (hle : cap < k + m) (hr : (k + m) * (bytes + 1) ≤ room) :
    ∃ cap' dr, k + m ≤ cap' ∧ (Builtin.append_ #[ts, tx] ty #[.slice base k cap, x]).run P w =
      .ok (.slice (some ⟨w.heap.size, 0, none⟩) (k + m) cap') { w with drawn := dr, heap := w.heap.push (.cells (os ++ us ++ Builtin.zeroCells z.cells (cap' - (k + m))) e (0, 0)) } := by
  generalize hcap : (Question.appendCap (k + m) cap e).cut (w.tape w.drawn (.appendCap (k + m) cap e)) = cap'
  have hge : k + m ≤ cap' := by rw [← hcap]; exact Nat.le_add_right _ _
  refine ⟨cap', w.drawn + 1, hge, ?_⟩
  obtain ⟨i, hi, hib⟩ := bytesT_inv hb
  have hroom : room = 1048576 := rfl
  have hkm : k + m ≤ 1048576 := by
    have : (k + m) * 1 ≤ (k + m) * (bytes + 1) := Nat.mul_le_mul_left _ (by omega)
    omega
  have hbb : bytes ≤ 1048576 := by
    have : 1 * (bytes + 1) ≤ (k + m) * (bytes + 1) := Nat.mul_le_mul_right _ (by omega)
    omega
  have c1 : ¬ (k + m ≤ cap) := by omega
  have c2 : ¬ (((k + m : Nat) : Int) > IntKind.i64.max) := by
    have hmax : IntKind.i64.max = 9223372036854775807 := rfl
    rw [hmax]; omega
  have c3 : ¬ (Builtin.nextslicecap (k + m) cap * i.bytes > 2 ^ 48) := by
    have h1 := next_le (need := k + m) (cap := cap) hle
    have h2 : Builtin.nextslicecap (k + m) cap * i.bytes ≤ (2 * 1048576 + 1000) * 1048576 := Nat.mul_le_mul (by omega) (by omega)
    omega
  have hforced : (Question.appendCap (k + m) cap e).forced = false := rfl
  rcases ht with ⟨e2, ht⟩ | ht
  all_goals
    have c4 : ¬ (((k + m : Nat) : Int) > IntKind.i64.max ∧ (False ∨ i.bytes = 0)) := fun h => c2 h.1
    have e0 : (#[ts, tx] : Array TypeId)[0]? = some ts := rfl
    have e1 : (#[ts, tx] : Array TypeId)[1]? = some tx := rfl
    have f0 : (#[.slice base k cap, x] : Array Value)[0]? = some (.slice base k cap) := rfl
    have f1 : (#[.slice base k cap, x] : Array Value)[1]? = some x := rfl
    simp only [Builtin.append_, e0, e1, f0, f1, Sem.run_bind, run_underlying hu, run_underlying ht, Sem.run_pure, Result.andThen_ok, run_sizeOf hn, hl, Bool.false_eq_true, if_false, if_neg c1, typeInfo, run_program, hi, if_neg c4, if_neg c3, run_choose, hforced, hcap, run_askRoom, ho, hf, hz, newRow, run_newObj, Bool.not_false, if_true]
end

end Go.Ev
/-
  A small machine over closed data, twenty-nine: how the machine appends.
-/
namespace Go.Ev

section
variable {P : Program} {φ : Map} {h : AHeap} {w : World}

theorem rep_fresh (R : Rep P φ h w) {q : Pos} (hq : h.next.toNat ≤ q.toNat) : h.t.get q = none ∧ φ q = none := by
  constructor
  · cases ht : h.t.get q with
    | none => rfl
    | some x => have := R.low q x ht; omega
  · cases hφ : φ q with
    | none => rfl
    | some L => have := (R.dom q L hφ).1; omega

/-- a place for a further block that goes on from the first n cells of another one -/
structure Grown (P : Program) (φ : Map) (h : AHeap) (w : World) (L : Loc) (n : Nat) (c : Pos) (g : Option Pos) (tA : T AObj) (nA : Pos) : Prop where
  rep : Rep P φ ⟨tA, nA⟩ w
  free : tA.get c = none
  none : φ c = none
  lt : c.toNat < nA.toNat
  mem : ∀ g', g = some g' → ∃ l, tA.get g' = some (.grp l) ∧ c ∈ l
  own : ∀ g' l, tA.get g' = some (.grp l) → c ∈ l → g = some g'
  mates : ∀ d z N, tA.get d = some z → φ d = some N → N.blk = L.blk → N.off = L.off ∧ (∃ g', grpOf z = some g' ∧ g = some g') ∧ sizeOf z ≤ n
  pend : ∀ d z, h.t.get d = some z → grpOf z = .none → isGrp z = false → φ d = .none → tA.get d = some z
  next : h.next.toNat ≤ nA.toNat

theorem growB_shape (R : Rep P φ h w) {e e2 : TypeId} {b c : Pos} {fz m n : Nat} {z : List AV} {u : T AV} {g : Option Pos} {vs : List AV} {h' : AHeap} {L : Loc} (hb : h.t.get b = some (.big e2 fz m z u g)) (hL : φ b = some L)
    (he : growB (.big e2 fz m z u g) h e b n vs = some (c, h')) :
    e2 = e ∧ n ≤ m ∧ fz ≤ n ∧ ∃ g' tA nA, h' = ⟨tA.set (.big e fz (n + len vs) z (tset u n vs) g') c, nA⟩ ∧ Grown P φ h w L n c g' tA nA := by
  obtain ⟨t, next⟩ := h
  have he := (show gd (Nat.beq e e2) (gd (Nat.ble n m) (gd (Nat.ble fz n) (fP next.succ (fun q => orE g
      (bi (Nat.beq n m)
        (fP q.succ fun q2 => some (q, (⟨((t.set (.grp [q, b]) next).set (.big e fz m z u (some next)) b).set (.big e fz (Nat.add n (len vs)) z (tset u n vs) (some next)) q, q2⟩ : AHeap)))
        (some (next, ⟨(t.del b).set (.big e fz (Nat.add n (len vs)) z (tset u n vs) .none) next, q⟩)))
      (fun g0 => ob (t.get g0) fun x => onGrp x (fun l => on2 (keepG n 8 t l) fun t l =>
        some (next, ⟨(t.set (.grp (next :: l)) g0).set (.big e fz (Nat.add n (len vs)) z (tset u n vs) (some g0)) next, q⟩)) .none))))) = some (c, h') from he)
  obtain ⟨h1, he1⟩ := gd_inv he
  obtain ⟨h2, he2⟩ := gd_inv he1
  obtain ⟨h3, he3⟩ := gd_inv he2
  have h1 : e2 = e := (Nat.eq_of_beq_eq_true h1).symm
  subst h1
  have h2 : n ≤ m := Nat.ble_eq.mp h2
  have h3 : fz ≤ n := Nat.ble_eq.mp h3
  refine ⟨rfl, h2, h3, ?_⟩
  rw [fP_eq] at he3
  have hsucc := Pos.toNat_succ next
  have hb : t.get b = some (.big e2 fz m z u g) := hb
  have hbl : b.toNat < next.toNat := R.low b _ hb
  cases g with
  | none =>
    by_cases hnm : n = m
    · subst hnm
      have he4 : bi (Nat.beq n n) (fP next.succ.succ fun q2 => some (next.succ, (⟨((t.set (.grp [next.succ, b]) next).set (.big e2 fz n z u (some next)) b).set (.big e2 fz (Nat.add n (len vs)) z (tset u n vs) (some next)) next.succ, q2⟩ : AHeap))) _ = some (c, h') := he3
      rw [show Nat.beq n n = true from Nat.beq_refl n, bi_true, fP_eq] at he4
      cases he4
      have hsucc2 := Pos.toNat_succ next.succ
      have RA := R.group1 (q := next.succ) (q2 := next.succ.succ) hb (by show next.toNat < _; omega) (by omega)
      obtain ⟨f1, f2⟩ := rep_fresh R (q := next.succ) (by show next.toNat ≤ _; omega)
      obtain ⟨f3, f4⟩ := rep_fresh R (q := next) (Nat.le_refl _)
      have f1 : t.get next.succ = none := f1
      have f3 : t.get next = none := f3
      have hget : ∀ d x, ((t.set (.grp [next.succ, b]) next).set (.big e2 fz n z u (some next)) b).get d = some x → (d = b ∧ x = .big e2 fz n z u (some next)) ∨ (d = next ∧ x = .grp [next.succ, b]) ∨ (d ≠ b ∧ d ≠ next ∧ t.get d = some x) := by
        intro d x hd
        rw [T.get_set, T.get_set] at hd
        split at hd
        · rename_i he; cases hd; exact .inl ⟨he.symm, rfl⟩
        · rename_i he
          split at hd
          · rename_i he2; cases hd; exact .inr (.inl ⟨he2.symm, rfl⟩)
          · rename_i he2; exact .inr (.inr ⟨Ne.symm he, Ne.symm he2, hd⟩)
      refine ⟨some next, _, _, rfl, RA, ?_, f2, by omega, ?_, ?_, ?_, ?_, by show next.toNat ≤ _; omega⟩
      · rw [T.get_set, if_neg (by intro he; rw [he] at hbl; omega), T.get_set, if_neg (by intro he; rw [← he] at hsucc; omega)]; exact f1
      · intro g' hg; cases hg
        refine ⟨[next.succ, b], ?_, by simp⟩
        rw [T.get_set, if_neg (by rintro rfl; omega), T.get_set, if_pos rfl]
      · intro g' l hg hl
        rcases hget g' _ hg with ⟨_, h4⟩ | ⟨rfl, _⟩ | ⟨_, _, h4⟩
        · cases h4
        · rfl
        · have := (R.listed g' l next.succ h4 hl).1
          have this : next.succ.toNat < next.toNat := this
          omega
      · intro d x N hd hN hblk
        rcases hget d x hd with ⟨rfl, rfl⟩ | ⟨rfl, rfl⟩ | ⟨h4, _, h5⟩
        · rw [hL] at hN; cases hN
          exact ⟨rfl, ⟨next, rfl, rfl⟩, Nat.le_refl _⟩
        · rw [f4] at hN; cases hN
        · rcases R.alone d b x _ N L h5 hb hN hL hblk with h6 | ⟨g', _, h6, _⟩
          · exact absurd h6 h4
          · cases h6
      · intro d x hd hg hi hφ
        have hd : t.get d = some x := hd
        rw [T.get_set, if_neg (by rintro rfl; rw [hL] at hφ; cases hφ), T.get_set, if_neg (by rintro rfl; rw [f3] at hd; cases hd)]
        exact hd
    · have he4 : bi (Nat.beq n m) _ (some (next, (⟨(t.del b).set (.big e2 fz (Nat.add n (len vs)) z (tset u n vs) .none) next, next.succ⟩ : AHeap))) = some (c, h') := he3
      rw [show Nat.beq n m = false by rw [← Bool.not_eq_true, Nat.beq_eq]; exact hnm, bi_false] at he4
      obtain ⟨hc, hh⟩ := Prod.mk.inj (Option.some.inj he4)
      subst hc
      subst hh
      obtain ⟨f3, f4⟩ := rep_fresh R (q := next) (Nat.le_refl _)
      have f3 : t.get next = none := f3
      have hget : ∀ d x, (t.del b).get d = some x → d ≠ b ∧ t.get d = some x := by
        intro d x hd
        rw [T.get_del] at hd
        split at hd
        · cases hd
        · rename_i he; exact ⟨Ne.symm he, hd⟩
      refine ⟨.none, _, _, rfl, R.less (by show next.toNat ≤ _; omega) (fun d x hd => (hget d x hd).2) (fun d x g' l hd hg hl => ?_), ?_, f4, by omega, fun g' hg => (by cases hg), ?_, ?_, ?_, by show next.toNat ≤ _; omega⟩
      · have hl : t.get g' = some (.grp l) := hl
        rw [T.get_del, if_neg (by rintro rfl; rw [hb] at hl; cases hl)]; exact hl
      · rw [T.get_del]; split
        · rfl
        · exact f3
      · intro g' l hg hl
        have := (R.listed g' l next (hget _ _ hg).2 hl).1
        have this : next.toNat < next.toNat := this
        omega
      · intro d x N hd hN hblk
        obtain ⟨h4, h5⟩ := hget d x hd
        rcases R.alone d b x _ N L h5 hb hN hL hblk with h6 | ⟨g', _, h6, _⟩
        · exact absurd h6 h4
        · cases h6
      · intro d x hd hg hi hφ
        rw [T.get_del, if_neg (by rintro rfl; rw [hL] at hφ; cases hφ)]; exact hd
  | some g0 =>
    obtain ⟨x, h4, he4⟩ := ob_inv (o := t.get g0) he3
    obtain ⟨l, h5, h6⟩ := R.member b _ g0 hb rfl
    have h5 : t.get g0 = some (.grp l) := h5
    rw [h4] at h5; cases h5
    have K := keepG_spec n l 8 t
    have he5 : on2 (keepG n 8 t l) (fun t l => some (next, (⟨(t.set (.grp (next :: l)) g0).set (.big e2 fz (Nat.add n (len vs)) z (tset u n vs) (some g0)) next, next.succ⟩ : AHeap))) = some (c, h') := he4
    generalize keepG n 8 t l = kk at K he5
    obtain ⟨t1, l1⟩ := kk
    have he6 : some (next, (⟨(t1.set (.grp (next :: l1)) g0).set (.big e2 fz (Nat.add n (len vs)) z (tset u n vs) (some g0)) next, next.succ⟩ : AHeap)) = some (c, h') := he5
    obtain ⟨hc, hh⟩ := Prod.mk.inj (Option.some.inj he6)
    subst hc
    subst hh
    have K : Kept n t l t1 l1 := K
    obtain ⟨f3, f4⟩ := rep_fresh R (q := next) (Nat.le_refl _)
    have f3 : t.get next = none := f3
    have hg0l : g0.toNat < next.toNat := R.low g0 _ h4
    have hget : ∀ d x, (t1.set (.grp (next :: l1)) g0).get d = some x → (d = g0 ∧ x = .grp (next :: l1)) ∨ (d ≠ g0 ∧ t1.get d = some x ∧ t.get d = some x) := by
      intro d x hd
      rw [T.get_set] at hd
      split at hd
      · rename_i he; cases hd; exact .inl ⟨he.symm, rfl⟩
      · rename_i he; exact .inr ⟨Ne.symm he, hd, K.sub d x hd⟩
    refine ⟨some g0, _, _, rfl, R.groupN h4 K (Nat.le_refl _) (by omega), ?_, f4, by omega, ?_, ?_, ?_, ?_, by show next.toNat ≤ _; omega⟩
    · rw [T.get_set, if_neg (by rintro rfl; omega)]
      cases h7 : t1.get next with
      | none => rfl
      | some x => have := K.sub _ _ h7; rw [f3] at this; cases this
    · intro g' hg; cases hg
      exact ⟨next :: l1, by rw [T.get_set, if_pos rfl], by simp⟩
    · intro g' l' hg hl
      rcases hget g' _ hg with ⟨rfl, _⟩ | ⟨_, _, h7⟩
      · rfl
      · have := (R.listed g' l' next h7 hl).1
        have this : next.toNat < next.toNat := this
        omega
    · intro d x N hd hN hblk
      rcases hget d x hd with ⟨rfl, rfl⟩ | ⟨_, h7, h8⟩
      · rw [R.grp d _ h4 rfl] at hN; cases hN
      · rcases R.alone d b x _ N L h8 hb hN hL hblk with rfl | ⟨g', h9, h10, h11⟩
        · rw [hb] at h8; cases h8
          rw [hL] at hN; cases hN
          exact ⟨rfl, ⟨g0, rfl, rfl⟩, (K.fit d _ h7 h6).2⟩
        · cases h10
          obtain ⟨l2, h12, h13⟩ := R.member d x g0 h8 h9
          have h12 : t.get g0 = some (.grp l2) := h12
          rw [h4] at h12; cases h12
          exact ⟨h11, ⟨g0, h9, rfl⟩, (K.fit d x h7 h13).2⟩
    · intro d x hd hg hi hφ
      have hd : t.get d = some x := hd
      rw [T.get_set, if_neg (by rintro rfl; rw [h4] at hd; cases hd; cases hi), K.rest d, hd]
      intro hm
      have := (R.listed g0 l d h4 hm).2 x hd
      rw [hg] at this; cases this
end

end Go.Ev
/-
  A small machine over closed data, thirty: appending to a block that is small, or from its middle on.
-/
namespace Go.Ev

section
variable {P : Program} {φ : Map} {h : AHeap} {w : World}

theorem growS_shape (R : Rep P φ h w) {e : TypeId} {b c : Pos} {x : AObj} {o n : Nat} {vs : List AV} {h' : AHeap} {L : Loc} (hb : h.t.get b = some x) (hL : φ b = some L)
    (he : growS h e b x o n vs = some (c, h')) :
    elemOf x = some e ∧ fzOf x ≤ o + n ∧ ∃ l tA nA, cellsN x o n = some l ∧ h' = ⟨tA.set (.big e (fzOf x - o) (len (l ++ vs)) [] (tset .leaf 0 (l ++ vs)) none) c, nA⟩ ∧ Grown P φ h w L n c none tA nA := by
  obtain ⟨h1, he1⟩ := gd_inv he
  obtain ⟨h2, he2⟩ := gd_inv he1
  obtain ⟨l, h3, he3⟩ := ob_inv he2
  obtain ⟨l2, h4, he4⟩ := ob_inv he3
  rw [appO_eq] at h4
  cases h4
  rw [fN_eq] at he4
  have h2 : fzO x ≤ o + n := Nat.ble_eq.mp h2
  rw [fzO_eq] at h2
  refine ⟨isElem_inv h1, h2, l, ?_⟩
  obtain ⟨t, next⟩ := h
  have he5 : some (next, new ⟨(Ev.alone x t).del b, next⟩ (.big e (fzO x - o) (len (l ++ vs)) [] (tset .leaf 0 (l ++ vs)) none)) = some (c, h') := he4
  obtain ⟨hc, hh⟩ := Prod.mk.inj (Option.some.inj he5)
  subst hc
  subst hh
  have hsucc := Pos.toNat_succ next
  obtain ⟨f3, f4⟩ := rep_fresh R (q := next) (Nat.le_refl _)
  have f3 : t.get next = none := f3
  have hnew : new ⟨(Ev.alone x t).del b, next⟩ (.big e (fzO x - o) (len (l ++ vs)) [] (tset .leaf 0 (l ++ vs)) none) = ⟨((Ev.alone x t).del b).set (.big e (fzO x - o) (len (l ++ vs)) [] (tset .leaf 0 (l ++ vs)) none) next, next.succ⟩ := fP_eq _ _
  rw [hnew, fzO_eq]
  have hget : ∀ d z, ((Ev.alone x t).del b).get d = some z → d ≠ b ∧ t.get d = some z ∧ ∀ g, grpOf x = some g → grpOf z ≠ some g ∧ d ≠ g := by
    intro d z hd
    rw [T.get_del] at hd
    split at hd
    · cases hd
    · rename_i he; exact ⟨Ne.symm he, (R.alone_get hb).mp hd⟩
  have hng := obj_notgrp R hb hL
  refine ⟨_, _, h3, rfl, R.less (by show next.toNat ≤ _; omega) (fun d z hd => (hget d z hd).2.1) (fun d z g' l hd hg hl => ?_), ?_, f4, by omega, fun g' hg => (by cases hg), ?_, ?_, ?_, by show next.toNat ≤ _; omega⟩
  · have hl : t.get g' = some (.grp l) := hl
    obtain ⟨k1, k2, k3⟩ := hget d z hd
    rw [T.get_del, if_neg (by rintro rfl; have hb : t.get b = some x := hb; rw [hb] at hl; cases hl; cases hng)]
    refine (R.alone_get hb).mpr ⟨hl, fun g hx => ⟨(by intro h; cases h), ?_⟩⟩
    rintro rfl
    exact (k3 _ hx).1 hg
  · cases h5 : ((Ev.alone x t).del b).get next with
    | none => rfl
    | some z => have := (hget _ _ h5).2.1; rw [f3] at this; cases this
  · intro g' l' hg hl
    have := (R.listed g' l' next (hget _ _ hg).2.1 hl).1
    have this : next.toNat < next.toNat := this
    omega
  · intro d z N hd hN hblk
    obtain ⟨k1, k2, k3⟩ := hget d z hd
    rcases R.alone d b z _ N L k2 hb hN hL hblk with h6 | ⟨g', h6, h7, _⟩
    · exact absurd h6 k1
    · exact absurd h6 (k3 g' h7).1
  · intro d z hd hg hi hφ
    have hd' : t.get d = some z := hd
    rw [T.get_del, if_neg (by rintro rfl; rw [hL] at hφ; cases hφ)]
    refine (R.alone_get hb).mpr ⟨hd', fun g hx => ⟨(by rw [hg]; intro h; cases h), ?_⟩⟩
    rintro rfl
    obtain ⟨l', h8, _⟩ := R.member b x _ hb hx
    rw [h8] at hd; cases hd; cases hi
end

end Go.Ev
