import Derived.Test.YtcgjkfpkbhhkfaaGreatDoorE3
set_option linter.unusedVariables false
set_option linter.unusedSimpArgs false
set_option linter.unusedSectionVars false
set_option autoImplicit true
set_option relaxedAutoImplicit true
/-
  A small machine over closed data, forty-five: steps in a region.
-/
namespace Go.Ev

section
variable {P : Program} {K : Nat → Bool} {N : Nat} {ops : Array Oper} {bef : Nat → Nat → Prop}
variable {φ : Map} {h : AHeap} {D : Pos → Prop} {pre left : List Nat} {is : List AIns} {vals : Nat → AV} {vars : T AV}
variable {fn : FuncId} {ds : List Deferred} {kind : CallKind} {ro : Option Nat} {k : List Item} {gs : List Frame}

/-- the model does what the machine has done already -/
theorem drain (U : Once N ops) (hst : ∀ i left', left = i :: left' → ∀ j ∈ left', bef j i) : ∀ (rest : List Nat) (tmps : Array Value) (φ : Map) (w : World) (pd : List (Nat × Pos)),
    RegS P K N ops bef φ h pre left [] is rest vals vars tmps pd → Rep P φ h w → Held φ h D pd →
    ∃ rest' tmps' φ' w' pd', Steps P (lone ⟨fn, tmps, .inRegion ops rest :: k, ds, .run, kind, ro⟩ gs w) (lone ⟨fn, tmps', .inRegion ops rest' :: k, ds, .run, kind, ro⟩ gs w') ∧
      RegS P K N ops bef φ' h pre left [] is rest' vals vars tmps' pd' ∧ Rep P φ' h w' ∧ Held φ' h D pd' ∧ Grows D φ φ' h h w w' ∧ (left = [] → rest' = []) ∧ ∀ i left', left = i :: left' → ∃ r, rest' = i :: r := by
  intro rest
  induction rest with
  | nil =>
    intro tmps φ w pd S R HD
    refine ⟨[], tmps, φ, w, pd, .refl P _, S, R, HD, Grows.refl D φ h w, fun _ => rfl, fun i left' hl => ?_⟩
    have := S.sub i (by rw [hl]; simp)
    cases this
  | cons i rest ih =>
    intro tmps φ w pd S R HD
    by_cases hi : i ∈ pre
    · obtain ⟨o, u, φ', w', pd', h1, h2, h3, h4, h5, h6⟩ := S.catch U hi R HD
      obtain ⟨rest'', tmps'', φ'', w'', pd'', k1, k2, k3, k4, k5, k6, k7⟩ := ih _ φ' w' pd' h3 h4 h6
      refine ⟨rest'', tmps'', φ'', w'', pd'', .head ?_ k1, k2, k3, k4, h5.trans k5, k6, k7⟩
      rcases h2 with ⟨g1, rfl, rfl⟩ | ⟨g1, g2, g3⟩
      · exact s_unwanted h1 g1
      · exact s_value h1 g1 (.inr g2) g3
    · have hl : i ∈ left := (S.mem i (by simp)).resolve_left hi
      cases left with
      | nil => cases hl
      | cons x left =>
        have hix : i = x := by
          rcases List.mem_cons.mp hl with h1 | h1
          · exact h1
          · exact absurd (S.sub x (by simp)) (S.lin.head (hst x left rfl i h1))
        subst hix
        exact ⟨i :: rest, tmps, φ, w, pd, .refl P _, S, R, HD, Grows.refl D φ h w, fun h1 => (by cases h1), fun i' left' h1 => (by cases h1; exact ⟨rest, rfl⟩)⟩

theorem Ins.head {i : Nat} {is0 : List AIns} (H : Ins P K ops bef pre (i :: left) is0) : ∃ o g a cs is, is0 = .op (keepT K o.dst) g a :: (cs ++ is) ∧ At P ops bef pre i left o g a ∧ (isW a = false → cs = []) ∧ (isW a = true → Again P ops bef pre i cs) ∧ Ins P K ops bef (i :: pre) left is := by
  cases H with
  | op _ _ _ o g a cs is h hq hw hs => exact ⟨o, g, a, cs, is, rfl, h, hq, hw, hs⟩
theorem Ins.nil_inv {is0 : List AIns} (H : Ins P K ops bef pre [] is0) : is0 = [] := by cases H; rfl
theorem Ins.cons_inv {x : AIns} {is0 : List AIns} (H : Ins P K ops bef pre left (x :: is0)) : ∃ i left' o g a cs is, left = i :: left' ∧ x = .op (keepT K o.dst) g a ∧ is0 = cs ++ is ∧ At P ops bef pre i left' o g a ∧ (isW a = false → cs = []) ∧ (isW a = true → Again P ops bef pre i cs) ∧ Ins P K ops bef (i :: pre) left' is := by
  cases left with
  | nil => have := H.nil_inv; cases this
  | cons i left =>
    obtain ⟨o, g, a, cs, is, h1, h2⟩ := H.head
    cases h1
    exact ⟨i, left, o, g, a, cs, is, rfl, rfl, rfl, h2⟩

/-- nothing of a region is left to do -/
theorem RegS.out {tmps : Array Value} {pd : List (Nat × Pos)} (S : RegS P K N ops bef φ h pre [] [] is [] vals vars tmps pd) : VarsR K φ vars tmps ∧ ∀ c x v, copd (envOf ops pre) c = some x → Ev.opd x (pre.map vals) vars = some v → VR φ v (evT tmps c) := by
  have hv : VarsR K φ vars tmps := fun t v hv => by
    obtain ⟨h1, _, h3⟩ := S.varsR t v hv
    exact ⟨h1, h3 fun i _ hi => by cases hi⟩
  refine ⟨hv, fun c x v hc hx => ?_⟩
  cases x with
  | loc q =>
    obtain ⟨t, j, rfl, h1, h2⟩ := copd_loc hc
    rw [opd_loc, List.getElem?_map, h1] at hx
    cases hx
    exact S.conc j (List.mem_of_getElem? h1) (by simp) t h2
  | var p =>
    obtain ⟨t, rfl, rfl⟩ := copd_var hc
    exact (hv t v hx).2
  | cst u =>
    cases hx
    exact (copd_cst hc).2 φ tmps

/-- what is left of a region where the code panics -/
theorem dels_get (p : Pos) : ∀ (l : List Pos) (t : T AV), (dels t l).get p = if p ∈ l then none else t.get p := by
  intro l
  induction l with
  | nil => intro t; simp [dels]
  | cons q l ih =>
    intro t
    show (dels (t.del q) l).get p = _
    rw [ih, T.get_del]
    by_cases h : p ∈ l
    · simp [h]
    · by_cases h2 : q = p
      · subst h2; simp
      · simp [h, h2, Ne.symm h2]
theorem RegS.fall {tmps : Array Value} {pd : List (Nat × Pos)} {i : Nat} {rest : List Nat} {cs : List AIns} (S : RegS P K N ops bef φ h pre (i :: left) cs is (i :: rest) vals vars tmps pd) {dirty : List Pos}
    (hd : (∀ j t, dstAt ops j = some t → K t = true → pos t ∈ dirty) ∨ ∀ i j, bef i j ∨ bef j i ∨ i = j) : VarsR K φ (dels vars dirty) tmps := by
  intro t v hv
  rw [dels_get] at hv
  split at hv
  · cases hv
  · rename_i hno
    obtain ⟨h1, _, h3⟩ := S.varsR t v hv
    refine ⟨h1, h3 fun j hj hjr hjt => ?_⟩
    rcases hd with h4 | h4
    · exact hno (h4 j t hjt h1)
    · have hfr : i ∉ pre := fun hi => by
        have := (List.nodup_append.mp S.both).2.2 i hi i (by simp)
        exact this rfl
      rcases h4 i j with h5 | h5 | h5
      · exact S.lin.head h5 hjr
      · exact hfr (S.closed j hj i h5)
      · subst h5; exact hfr hj
end

end Go.Ev
/-
  A small machine over closed data, forty-six: steps in a region, two: what is quiet, and what writes but for calls.
-/
namespace Go.Ev

structure TopR (P : Program) (φ : Map) (x : AFix) (ads : List ADef) (fn : FuncId) (kind : CallKind) (ro : Option Nat) (ds : List Deferred) : Prop where
  fn : fn = x.fn
  kind : kind = x.kind
  round : RoundR φ x.round ro
  defers : DefsR φ ads ds
  known : ∃ f, P.funcs[x.fn]? = some f
theorem TopR.mono {P : Program} {φ φ' : Map} (hle : φ.le φ') {x : AFix} {ads : List ADef} {fn : FuncId} {kind : CallKind} {ro : Option Nat} {ds : List Deferred} (T : TopR P φ x ads fn kind ro ds) : TopR P φ' x ads fn kind ro ds :=
  ⟨T.fn, T.kind, T.round.mono hle, T.defers.mono hle, T.known⟩

/-- the model comes to where the machine comes -/
noncomputable def Goal (P : Program) (φ : Map) (cs0 : Bot) (h : AHeap) (g : Frame) (gs : List Frame) (w : World) (c' : ACfg) : Prop :=
  ∃ g' gs' w' φ', Steps P (lone g gs w) (lone g' gs' w') ∧ CfgR P φ' cs0 c' g' gs' w' ∧ Grows cs0.B φ φ' h c'.h w w'

section
variable {P : Program} {φ φ' : Map} {h h' : AHeap} {w w' : World} {D : Pos → Prop} {cs0 : Bot} {x : AFix} {ads : List ADef} {fn : FuncId} {kind : CallKind} {ro : Option Nat} {ds : List Deferred}
variable {vars : T AV} {loc : List AV} {todo : List AItem} {tmps : Array Value} {todo' : List Item} {pd : List (Nat × Pos)} {cs : List AFrame} {gs : List Frame}

theorem mkCfg (R : Rep P φ h w) (T : TopR P φ x ads fn kind ro ds) (B : BodyR P (keepOf P x.fn) (ntOf P x.fn) φ h false vars loc todo tmps todo' pd) (HD : Held φ h D pd) (S : StkR P φ h cs0 D cs gs) (hD : ∀ b, D b → b.toNat < h.next.toNat) :
    CfgR P φ cs0 ⟨⟨x, ads, .run, vars, loc, todo⟩, cs, h⟩ ⟨fn, tmps, todo', ds, .run, kind, ro⟩ gs w :=
  ⟨R, pd, D, ⟨T.fn, T.kind, T.round, T.defers, T.known, rfl, B⟩, HD, S, hD⟩
theorem Held.nil : Held φ h D [] := ⟨fun q hq => (by cases hq), List.nodup_nil, fun q hq => (by cases hq)⟩
theorem mkStk (T : TopR P φ x ads fn kind ro ds) (B : BodyR P (keepOf P x.fn) (ntOf P x.fn) φ h true vars loc todo tmps todo' pd) (HD : Held φ h D pd) (S : StkR P φ h cs0 D cs gs) :
    StkR P φ h cs0 (fun b => D b ∨ ∃ q ∈ pd, q.2 = b) (⟨x, ads, .run, vars, loc, todo⟩ :: cs) (⟨fn, tmps, todo', ds, .run, kind, ro⟩ :: gs) :=
  ⟨_, gs, pd, D, rfl, ⟨T.fn, T.kind, T.round, T.defers, T.known, rfl, B⟩, HD, fun q hq => .inr ⟨q, hq, rfl⟩, fun b hb => .inl hb, S⟩
theorem Held.low (HD : Held φ h D pd) (R : Rep P φ h w) (hD : ∀ b, D b → b.toNat < h.next.toNat) : ∀ b, (D b ∨ ∃ q ∈ pd, q.2 = b) → b.toNat < h.next.toNat := by
  rintro b (hb | ⟨q, hq, rfl⟩)
  · exact hD b hb
  · obtain ⟨_, ob, h2, _⟩ := HD.held q hq
    exact R.low _ _ h2
theorem From.next {cs0 : Bot} {D : Pos → Prop} (Fr : From cs0 φ h w) (G : Grows D φ φ' h h' w w') : From cs0 φ' h' w' := Fr.trans (G.weaken fun b hb => hb.elim)

theorem evm_obj {mo : MOp} {ρ : Opd → Option AV} {p : Pos} {ob' : AObj} {v : AV} (he : evm mo ρ p = some (ob', v)) : grpOf ob' = none ∧ isGrp ob' = false := by
  cases mo with
  | alc e z => cases he; exact ⟨rfl, rfl⟩
  | box e y =>
    obtain ⟨u, _, h2⟩ := ob_inv (o := ρ y) he
    obtain ⟨_, h4⟩ := gd_inv (b := known u) h2
    cases h4; exact ⟨rfl, rfl⟩
  | bsl e n m z ps =>
    obtain ⟨l, _, h2⟩ := ob_inv (o := fillp ρ ps z) he
    cases h2; exact ⟨rfl, rfl⟩
  | mkm => cases he; exact ⟨rfl, rfl⟩

section
variable {K : Nat → Bool} {N : Nat} {ops : Array Oper} {bef : Nat → Nat → Prop} {pre left : List Nat} {is : List AIns} {rest : List Nat} {vals : Nat → AV}
variable {F : FuncId → Option AFunc} {X : FuncId → Option Ext}

theorem push_loc {i : Nat} {v : AV} (hi : i ∉ pre) : (i :: pre).map (put vals i v) = v :: pre.map vals := by
  rw [List.map_cons, put_same, put_map hi]

/-- the machine does what is quiet -/
theorem RegS.next {i : Nat} {o : Oper} {g : Option (Nat × Bool)} {a : AOp} {d : List Pos} {k : List AItem} {c' : ACfg} (S : RegS P K N ops bef φ h pre (i :: left) [] (.op (keepT K o.dst) g a :: is) rest vals vars tmps pd) (U : Once N ops) (A : At P ops bef pre i left o g a)
    (hs : Ins P K ops bef (i :: pre) left is) (hq : isW a = false) (R : Rep P φ h w) (HD : Held φ h D pd) (hD : ∀ b, D b → b.toNat < h.next.toNat)
    (he : Ev.ins P F X (.op (keepT K o.dst) g a) x ads vars (pre.map vals) cs h is d k = some c') :
    ∃ v h' pd', c' = ⟨⟨x, ads, .run, keepV (keepT K o.dst) vars v, (i :: pre).map (put vals i v), .run is d :: k⟩, cs, h'⟩ ∧ RegS P K N ops bef φ h' (i :: pre) left [] is rest (put vals i v) (keepV (keepT K o.dst) vars v) tmps pd' ∧
      Held φ h' D pd' ∧ Rep P φ h' w ∧ Grows D φ φ h h' w w := by
  obtain ⟨r, h1, h2⟩ := ob_inv (o := wanted g (pre.map vals)) he
  cases r with
  | false =>
    cases (show some (⟨push x ads vars (pre.map vals) (keepT K o.dst) (.tup []) is d k, cs, h⟩ : ACfg) = some c' from h2)
    refine ⟨.tup [], h, pd, ?_, S.ahead U A hs h1 (fun _ => rfl) (fun _ _ _ h => h) (fun _ _ h => h) (fun _ h => h) (fun h => by cases h), HD, R, Grows.refl D φ h w⟩
    rw [push_loc A.fresh]; rfl
  | true =>
    have h2 : aop P F X a x ads vars (pre.map vals) cs h (keepT K o.dst) g is d k = some c' := h2
    cases a with
    | q qo =>
      obtain ⟨v, h3, h4⟩ := ob_inv (o := evq qo (fun y => Ev.opd y (pre.map vals) vars) h) h2
      rw [fv_eq] at h4
      cases h4
      refine ⟨v, h, pd, ?_, S.ahead U A hs h1 (fun h => by cases h) (fun _ _ _ h => h) (fun _ _ h => h) (fun _ h => h) (fun _ => .inl ⟨qo, rfl, h3⟩), HD, R, Grows.refl D φ h w⟩
      rw [push_loc A.fresh]; rfl
    | m mo =>
      obtain ⟨⟨ob', v⟩, h3, h4⟩ := ob_inv (o := evm mo (fun y => Ev.opd y (pre.map vals) vars) (nextOf h)) h2
      cases (show some (⟨push x ads vars (pre.map vals) (keepT K o.dst) v is d k, cs, new h ob'⟩ : ACfg) = some c' from h4)
      obtain ⟨g1, g2⟩ := evm_obj h3
      obtain ⟨R1, G1, k1, k2, k3⟩ := R.pend g1 g2 D
      have hget : ∀ p ob, h.t.get p = some ob → (new h ob').t.get p = some ob := fun p ob hp => by
        rw [new_t, T.get_set, if_neg]
        · exact hp
        · rintro rfl; rw [k3] at hp; cases hp
      have hnotin : ∀ q ∈ pd, q.2 ≠ h.next := fun q hq hh => by
        obtain ⟨_, ob, h5, _⟩ := HD.held q hq
        rw [hh, k3] at h5; cases h5
      rw [nextOf_eq] at h3
      refine ⟨v, new h ob', (i, h.next) :: pd, ?_, S.ahead U A hs h1 (fun h => by cases h) (fun qo ρ u hu => evq_new k3 hu) hget (fun q hq => by simp [hq]) (fun _ => .inr ⟨mo, h.next, ob', rfl, h3, by simp, k1⟩), ?_, R1, G1⟩
      · rw [push_loc A.fresh]; rfl
      · refine ⟨fun q hq => ?_, List.nodup_cons.mpr ⟨fun hm => ?_, HD.nodup⟩, fun q hq => ?_⟩
        · rcases List.mem_cons.mp hq with rfl | hq
          · exact ⟨k2, ob', k1, g1, g2⟩
          · obtain ⟨h5, ob, h6, h7⟩ := HD.held q hq
            exact ⟨h5, ob, hget _ _ h6, h7⟩
        · obtain ⟨q, hq, hqe⟩ := List.mem_map.mp hm
          exact hnotin q hq hqe
        · rcases List.mem_cons.mp hq with rfl | hq
          · intro hd
            have := hD _ hd
            exact absurd this (Nat.lt_irrefl _)
          · exact HD.far q hq
    | w wo => cases hq
end
end

end Go.Ev
/-
  A small machine over closed data, forty-seven: steps in a region, three: what writes, but for calls.
-/
namespace Go.Ev

/-- the machine and the model are about to do the same operation -/
structure WAt (P : Program) (φ : Map) (h : AHeap) (w : World) (cs0 : Bot) (D : Pos → Prop) (x : AFix) (ads : List ADef) (fn : FuncId) (kind : CallKind) (ro : Option Nat) (ds : List Deferred) (ops : Array Oper) (bef : Nat → Nat → Prop)
    (pre : List Nat) (i : Nat) (left rest : List Nat) (o : Oper) (g : Option (Nat × Bool)) (a : AOp) (ks is : List AIns) (vals : Nat → AV) (vars : T AV) (tmps : Array Value) (pd : List (Nat × Pos)) (dirty : List Pos) (k : List AItem) (k' : List Item) (cs : List AFrame) (gs : List Frame) : Prop where
  S : RegS P (keepOf P x.fn) (ntOf P x.fn) ops bef φ h pre (i :: left) [] (.op (keepT (keepOf P x.fn) o.dst) g a :: (ks ++ is)) (i :: rest) vals vars tmps pd
  U : Once (ntOf P x.fn) ops
  A : At P ops bef pre i left o g a
  G : Again P ops bef pre i ks
  hs : Ins P (keepOf P x.fn) ops bef (i :: pre) left is
  hd : (∀ j t, dstAt ops j = some t → keepOf P x.fn t = true → pos t ∈ dirty) ∨ ∀ i j, bef i j ∨ bef j i ∨ i = j
  ht : TailR P (keepOf P x.fn) (ntOf P x.fn) φ (envOf ops ((i :: left).reverse ++ pre)) k k'
  top : TopR P φ x ads fn kind ro ds
  HD : Held φ h D pd
  St : StkR P φ h cs0 D cs gs
  hD : ∀ b, D b → b.toNat < h.next.toNat
  R : Rep P φ h w
  frm : From cs0 φ h w

section
variable {P : Program} {φ φ' : Map} {h h' : AHeap} {w w' : World} {cs0 : Bot} {D : Pos → Prop} {x : AFix} {ads : List ADef} {fn : FuncId} {kind : CallKind} {ro : Option Nat} {ds : List Deferred} {ops : Array Oper} {bef : Nat → Nat → Prop}
variable {pre : List Nat} {i : Nat} {left rest : List Nat} {o : Oper} {g : Option (Nat × Bool)} {a : AOp} {ks is : List AIns} {vals : Nat → AV} {vars : T AV} {tmps : Array Value} {pd : List (Nat × Pos)} {dirty : List Pos} {k : List AItem} {k' : List Item} {cs : List AFrame} {gs : List Frame}
variable {F : FuncId → Option AFunc} {X : FuncId → Option Ext}

/-- all blocks that the model has still to make -/
noncomputable def All (D : Pos → Prop) (pd : List (Nat × Pos)) (b : Pos) : Prop := D b ∨ ∃ q ∈ pd, q.2 = b

theorem WAt.done (W : WAt P φ h w cs0 D x ads fn kind ro ds ops bef pre i left rest o g a ks is vals vars tmps pd dirty k k' cs gs) (R' : Rep P φ' h' w') (Gr : Grows (All D pd) φ φ' h h' w w') {v : AV} {u : Value} (hv : VR φ' v u) {ads' : List ADef} {ds' : List Deferred} (hds : DefsR φ' ads' ds') :
    CfgR P φ' cs0 ⟨push x ads' vars (pre.map vals) (keepT (keepOf P x.fn) o.dst) v (ks ++ is) dirty k, cs, h'⟩ ⟨fn, putT tmps o.dst u, .inRegion ops rest :: k', ds', .run, kind, ro⟩ gs w' := by
  obtain ⟨H1, H2⟩ := W.HD.grows Gr fun q hq => .inr ⟨q, hq, rfl⟩
  have S' := W.S.wrote W.U W.A W.G W.hs Gr.le hv H2
  have B := BodyR.reg (s := false) (h := h') ops bef h' (i :: pre) left ks is rest _ _ _ pd dirty k k' S' W.U W.hd (by
    have := W.ht.mono Gr.le
    rw [List.reverse_cons, List.append_assoc] at this; exact this) (fun _ => rfl) (fun _ _ _ h => h) (by simp)
  rw [push_loc W.A.fresh] at B
  have T' := W.top.mono Gr.le
  exact mkCfg R' ⟨T'.fn, T'.kind, T'.round, hds, T'.known⟩ B H1 (W.St.mono (Gr.weaken fun b hb => .inl hb)) fun b hb => Nat.lt_of_lt_of_le (W.hD b hb) Gr.next

theorem WAt.unwanted (W : WAt P φ h w cs0 D x ads fn kind ro ds ops bef pre i left rest o g a ks is vals vars tmps pd dirty k k' cs gs) (hr : wanted g (pre.map vals) = some false) :
    Goal P φ cs0 h ⟨fn, tmps, .inRegion ops (i :: rest) :: k', ds, .run, kind, ro⟩ gs w ⟨push x ads vars (pre.map vals) (keepT (keepOf P x.fn) o.dst) (.tup []) (ks ++ is) dirty k, cs, h⟩ :=
  ⟨_, gs, w, φ, .one (s_unwanted W.A.op (W.S.guard W.U W.A hr)), W.done W.R (Grows.refl _ φ h w) (.tup [] #[] .nil) W.top.defers, Grows.refl _ φ h w⟩

theorem cop_cases {env : List (Option Tmp)} {wo : WOp} (h : cop P env o = .w wo) : wo = .bad ∨ cop? P env o = some (.w wo) := by
  unfold cop at h
  split at h
  · rename_i a ha; rw [h] at ha; exact .inr ha
  · cases h; exact .inl rfl
theorem evw_nodefer {env : List (Option Tmp)} {wo : WOp} {ρ : Opd → Option AV} {r : AV × AHeap} (hc : cop? P env o = some (.w wo)) (he : evw wo ρ h = some r) : ∀ c, o.op ≠ .defer c := by
  intro c ho
  unfold cop? at hc
  rw [ho] at hc
  dsimp only at hc
  split at hc
  · split at hc
    · cases hc; cases he
    · cases hc
  · cases hc
/-- what writes -/
theorem WAt.evw (W : WAt P φ h w cs0 D x ads fn kind ro ds ops bef pre i left rest o g (.w wo) ks is vals vars tmps pd dirty k k' cs gs) (hr : wanted g (pre.map vals) = some true) {c' : ACfg}
    (he : evw1 wo x ads vars (pre.map vals) cs h (keepT (keepOf P x.fn) o.dst) (ks ++ is) dirty k = some c') : Goal P φ cs0 h ⟨fn, tmps, .inRegion ops (i :: rest) :: k', ds, .run, kind, ro⟩ gs w c' := by
  obtain ⟨⟨v, h'⟩, h1, h2⟩ := ob_inv (o := Ev.evw wo (fun y => opd y (pre.map vals) vars) h) he
  have h2 : fv v (fun v => some (⟨push x ads vars (pre.map vals) (keepT (keepOf P x.fn) o.dst) v (ks ++ is) dirty k, cs, h'⟩ : ACfg)) = some c' := h2
  rw [fv_eq] at h2
  cases h2
  have hop := W.S.opdR W.U W.A
  rw [evw_congr (σ := only (wopds wo) (fun y => opd y (pre.map vals) vars)) only_all] at h1
  rcases cop_cases W.A.act with rfl | hc
  · cases h1
  · obtain ⟨nx, w', φ', g1, g2, g3, g4⟩ := evw_sound W.R (All D pd) hop hc h1
    have hw := W.S.guard W.U W.A hr
    have hnd := evw_nodefer hc h1
    rcases g4 with ⟨u, rfl, hv⟩ | ⟨rfl, rfl⟩
    · exact ⟨_, gs, w', φ', .one (s_value W.A.op hw (.inr hnd) g1), W.done g2 g3 hv (W.top.defers.mono g3.le), (g3.weaken fun b hb => .inl hb).of W.St⟩
    · exact ⟨_, gs, w', φ', .one (s_none W.A.op hw (.inr hnd) g1), W.done g2 g3 (.un _) (W.top.defers.mono g3.le), (g3.weaken fun b hb => .inl hb).of W.St⟩

/-- the frame of an operation that waits for a call -/
theorem WAt.waits {wo : WOp} (W : WAt P φ h w cs0 D x ads fn kind ro ds ops bef pre i left rest o g (.w wo) ks is vals vars tmps pd dirty k k' cs gs) :
    StkR P φ h cs0 (All D pd) (cur x ads vars (pre.map vals) (keepT (keepOf P x.fn) o.dst) g (.w wo) (ks ++ is) dirty k :: cs) (⟨fn, tmps, .inRegion ops (i :: rest) :: k', ds, .run, kind, ro⟩ :: gs) := by
  refine mkStk W.top ?_ W.HD W.St
  exact BodyR.reg (s := true) ops bef h pre (i :: left) [] _ (i :: rest) vals vars tmps pd dirty k k' W.S W.U W.hd W.ht (by simp) (fun _ _ _ h => h) (fun _ => ⟨i, left, rest, _, _, wo, _, rfl, rfl, rfl, rfl⟩)

/-- a frame that has waited goes on -/
theorem finish_rel {E D : Pos → Prop} {pd : List (Nat × Pos)} {fr fr' : AFrame} {g : Frame} {v : AV} {u : Value} (H : FrR P φ h true pd fr g) (HD : Held φ h D pd) (St : StkR P φ h cs0 D cs gs) (hD : ∀ b, D b → b.toNat < h.next.toNat) (R : Rep P φ h w) (hv : VR φ v u) (he : finish fr v = some fr') :
    CfgR P φ cs0 ⟨fr', cs, h⟩ (g.finish u) gs w := by
  obtain ⟨x, ads, m, vars, loc, todo⟩ := fr
  obtain ⟨fn, tmps, todo', ds, mode, kind, ro⟩ := g
  have hm : m = .run := by cases m <;> first | rfl | cases he
  subst hm
  obtain ⟨hm, B⟩ := H.body
  cases hm
  have T : TopR P φ x ads fn kind ro ds := ⟨H.fn, H.kind, H.round, H.defers, H.known⟩
  have B : BodyR P (keepOf P x.fn) (ntOf P x.fn) φ h true vars loc todo tmps todo' pd := B
  clear H
  cases B with
  | plain _ _ _ _ _ hv hn ht =>
    cases ht with
    | inRF b L k k' hb ht =>
      cases he
      exact mkCfg R T (.plain _ _ _ _ _ hv hn (.endRF b L k k' hb ht)) HD St hD
    | _ => cases he
  | cnd _ _ y c a b k _ k' hv hn hx ht => cases he
  | reg ops bef h₀ pre left cs is rest vals _ _ _ dirty k k' S U hd ht hh hp hs =>
    obtain ⟨i, left', rest', kp, gu, wo, is0, rfl, rfl, rfl, rfl⟩ := hs rfl
    obtain ⟨o, gu', a, ks, is', h1, A, h3, h4, h5⟩ := S.ins.head
    cases h1
    cases he
    have S' := S.wrote U A (h4 rfl) h5 φ.le_refl hv hp
    have B := BodyR.reg (s := false) (h := h) ops bef h (i :: pre) left' ks is' rest' _ _ _ pd dirty k k' S' U hd (by rw [List.reverse_cons, List.append_assoc] at ht; exact ht) (fun _ => rfl) (fun _ _ _ h => h) (by simp)
    rw [push_loc A.fresh] at B
    have := mkCfg R T B HD St hD
    rw [finish_op A.op]
    exact this
end

end Go.Ev
/-
  A small machine over closed data, forty-eight: calls.
-/
namespace Go.Ev

/-- what is known of the functions that are taken by contract -/
noncomputable def XOk (P : Program) (X : FuncId → Option Ext) (cs0 : Bot) : Prop := ∀ f e, X f = some e → (∃ fn, P.funcs[f]? = some fn ∧ fn.body.isSome = true ∧ fn.name ≠ "runtime.NumGoroutine") ∧
  ∀ (D : Pos → Prop) (φ : Map) (h : AHeap) (w : World) (xs : List AV) (ys : Array Value) (v : AV) (h' : AHeap), e xs h = some (v, h') → VRs φ xs ys.toList → Rep P φ h w → From cs0 φ h w → (∀ b, D b → b.toNat < h.next.toNat) →
    Calls P f ys w fun r w' => ∃ u φ', r = .returned u ∧ VR φ' v u ∧ Rep P φ' h' w' ∧ Grows D φ φ' h h' w w'

noncomputable def GoalM (P : Program) (φ : Map) (cs0 : Bot) (h : AHeap) (m : Machine) (w : World) (c' : ACfg) : Prop :=
  ∃ g' gs' w' φ', Steps P m (lone g' gs' w') ∧ CfgR P φ' cs0 c' g' gs' w' ∧ Grows cs0.B φ φ' h c'.h w w'

section
variable {P : Program} {φ : Map} {h : AHeap} {w : World} {cs0 : Bot} {D : Pos → Prop} {pd : List (Nat × Pos)} {cs : List AFrame} {gs : List Frame} {fr : AFrame} {g : Frame} {m : Machine}
variable {F : FuncId → Option AFunc} {X : FuncId → Option Ext}

theorem run_callFunc {f : FuncId} {fn : Func} {ys : Array Value} (hf : P.funcs[f]? = some fn) (hn : fn.name ≠ "runtime.NumGoroutine") (hb : fn.body.isSome = true) : (callFunc f ys).run P w = .ok (.enter f ys) w := by
  have h1 : (fn.name == "runtime.NumGoroutine") = false := by simpa using hn
  have h2 : fn.body.isNone = false := by
    cases hbb : fn.body with
    | none => rw [hbb] at hb; cases hb
    | some b => rfl
  simp only [callFunc, Sem.run_bind, run_program, Result.andThen_ok, hf, h1, Bool.false_eq_true, if_false, h2, Sem.run_pure]

theorem FOk.callable (HF : FOk P F) {f : FuncId} {af : AFunc} (h : F f = some af) : ∃ fn, P.funcs[f]? = some fn ∧ fn.body.isSome = true ∧ fn.name ≠ "runtime.NumGoroutine" := by
  obtain ⟨fn, h1, h2, h3⟩ := HF f af h
  obtain ⟨b, rs, h4, _⟩ := compF_inv h2
  exact ⟨fn, h1, by rw [h4]; rfl, h3⟩

/-- a call of a function -/
theorem callF_rel (HF : FOk P F) (HX : XOk P X cs0) (H : FrR P φ h true pd fr g) (HD : Held φ h D pd) (St : StkR P φ h cs0 D cs gs) (hD : ∀ b, D b → b.toNat < h.next.toNat) (R : Rep P φ h w) (Fr : From cs0 φ h w) {f : FuncId} {xs : List AV} {ys : Array Value} (hx : VRs φ xs ys.toList)
    (hgo : (callFunc f ys).run P w = .ok (.enter f ys) w → Steps P m (lone (Frame.enter P f ys .normal) (g :: gs) w)) {c' : ACfg} (he : callF F X fr cs h f xs = some c') : GoalM P φ cs0 h m w c' := by
  unfold callF at he
  cases hX : X f with
  | none =>
    rw [hX] at he
    obtain ⟨fr', h1, h2⟩ := ob_inv (o := enter F f xs .normal) he
    cases h2
    obtain ⟨af, h3, _⟩ := ob_inv (o := F f) h1
    obtain ⟨fn, h4, h5, h6⟩ := HF.callable h3
    have hfr := (enter_rel (h := h) (φ := φ) HF h1 hx).1
    refine ⟨_, g :: gs, w, φ, hgo (run_callFunc h4 h6 h5), ⟨R, [], All D pd, hfr, Held.nil, ⟨g, gs, pd, D, rfl, H, HD, fun q hq => .inr ⟨q, hq, rfl⟩, fun b hb => .inl hb, St⟩, HD.low R hD⟩, Grows.refl _ φ h w⟩
  | some e =>
    rw [hX] at he
    obtain ⟨⟨v, h'⟩, h1, h2⟩ := ob_inv (o := e xs h) he
    obtain ⟨fr', h3, h4⟩ := ob_inv (o := finish fr v) h2
    cases h4
    obtain ⟨⟨fn, k1, k2, k3⟩, hcall⟩ := HX f e hX
    obtain ⟨r, w', fr2, ⟨u, φ', rfl, g2, g3, g4⟩, g5, g6, g7⟩ := hcall (All D pd) φ h w xs ys v h' h1 hx R Fr (HD.low R hD) (g :: gs)
    obtain ⟨H1, H2⟩ := HD.grows g4 fun q hq => .inr ⟨q, hq, rfl⟩
    have hc := finish_rel (E := D) (H.mono g4.le H2) H1 (St.mono (g4.weaken fun b hb => .inl hb)) (fun b hb => Nat.lt_of_lt_of_le (hD b hb) g4.next) g3 g2 h3
    exact ⟨_, gs, w', φ', (hgo (run_callFunc k1 k3 k2)).trans (Steps.trans g5 (.one (step_leave_returned g7))), hc, (g4.weaken fun b hb => .inl hb).of St⟩

theorem setPs_rel {K : Nat → Bool} {N : Nat} : ∀ (ps : List Tmp) (xs : List AV) (ys : List Value) (vars : T AV) (tmps : Array Value), VarsR K φ vars tmps → VRs φ xs ys → (∀ t ∈ ps, K t = true ∧ t < N) → N ≤ tmps.size → ps.length = xs.length →
    VarsR K φ (setPs vars (pst ps) xs) ((ps.zip ys).foldl (fun tmps (t, a) => tmps.setIfInBounds t a) tmps) ∧ N ≤ ((ps.zip ys).foldl (fun tmps (t, a) => tmps.setIfInBounds t a) tmps).size := by
  intro ps
  induction ps with
  | nil => intro xs ys vars tmps hv _ _ hn _; exact ⟨hv, hn⟩
  | cons t ps ih =>
    intro xs ys vars tmps hv hx hk hn hl
    cases xs with
    | nil => simp at hl
    | cons v xs =>
      cases hx with
      | cons _ u _ ys h1 h2 =>
        obtain ⟨k1, k2⟩ := hk t (by simp)
        refine ih xs ys (vars.set v (pos t)) (tmps.setIfInBounds t u) (fun t' v' hv' => ?_) h2 (fun t' ht' => hk t' (by simp [ht'])) (by simpa using hn) (by simpa using hl)
        rw [T.get_set] at hv'
        split at hv'
        · rename_i he
          have := pos_inj he
          subst this
          cases hv'
          exact ⟨k1, by rw [show tmps.setIfInBounds t u = putT tmps (some t) u from rfl, putT_same (Nat.lt_of_lt_of_le k2 hn)]; exact h1⟩
        · rename_i he
          obtain ⟨g1, g2⟩ := hv t' v' hv'
          exact ⟨g1, by rw [show tmps.setIfInBounds t u = putT tmps (some t) u from rfl, putT_other (fun h3 => he (by cases h3; rfl))]; exact g2⟩

theorem Rep.loop (R : Rep P φ h w) {b : Pos} {l : ALoop} {L : Loc} (hb : hget h b = some (.loop l)) (hL : φ b = some L) : ∃ r, w.heap[L.blk]? = some (.loop r) ∧ LoopR P φ l r := by
  obtain ⟨t, n⟩ := h
  obtain ⟨o, h1, h2⟩ := R.obj b _ L hb hL
  cases h2 with
  | loop _ _ r hr => exact ⟨r, h1, hr⟩
  | cells _ _ _ _ _ _ he _ => cases he

theorem run_getLoop {l : Nat} {r : Loop} (h : w.heap[l]? = some (.loop r)) : (Instr.getLoop l).run P w = .ok r w := by
  simp [Instr.getLoop, getObj, Sem.run, h]

/-- a call of a function value -/
theorem callV_rel (HF : FOk P F) (HX : XOk P X cs0) (H : FrR P φ h true pd fr g) (HD : Held φ h D pd) (St : StkR P φ h cs0 D cs gs) (hD : ∀ b, D b → b.toNat < h.next.toNat) (R : Rep P φ h w) (Fr : From cs0 φ h w) {fv : AV} {u : Value} (hf : VR φ fv u) {xs : List AV} {ys : Array Value} (hx : VRs φ xs ys.toList)
    (hgo : ∀ f zs, (do let d ← Deferred.ofValue u ys; invoke d.target d.args).run P w = .ok (.enter f zs) w → Steps P m (lone (Frame.enter P f zs .normal) (g :: gs) w))
    (hrd : ∀ l f tm a b, (do let d ← Deferred.ofValue u ys; invoke d.target d.args).run P w = .ok (.round l f tm a b) w → Steps P m (lone (Frame.round l f tm a b .normal) (g :: gs) w))
    {c' : ACfg} (he : callV F X fv fr cs h xs = some c') : GoalM P φ cs0 h m w c' := by
  cases hf with
  | func f first capt fi ca h1 h2 =>
    have he : callF F X fr cs h f (app (app first xs) capt) = some c' := he
    rw [app_eq, app_eq] at he
    have hxs : VRs φ ((first ++ xs) ++ capt) ((fi ++ ys) ++ ca).toList := by simpa using (h1.append hx).append h2
    refine callF_rel HF HX H HD St hD R Fr hxs (fun hr => hgo f _ ?_) he
    simp only [Deferred.ofValue, Sem.run_bind, Sem.run_pure, Result.andThen_ok, invoke]
    exact hr
  | yld b L hL =>
    obtain ⟨o, h1, h2⟩ := ob_inv (o := hget h b) he
    obtain ⟨l, rfl, h3⟩ := onLoop_inv (v := o) h2
    obtain ⟨st, pe, fn, vars, ps, assign, body, dd⟩ := l
    obtain ⟨h4, h5⟩ := gd_inv (b := Nat.beq (len xs) (len ps)) h3
    cases h5
    obtain ⟨r, k1, LR⟩ := R.loop h1 hL
    have hps : ps = pst r.params.toList := LR.params
    have hlen : r.params.toList.length = xs.length := by
      have := Nat.eq_of_beq_eq_true h4
      rw [len_eq, len_eq, hps] at this
      rw [this]; simp [pst]
    have hsz : ys.size = r.params.size := by
      have := hx.length
      simp at this hlen; omega
    obtain ⟨v1, v2⟩ := setPs_rel r.params.toList xs ys.toList vars r.tmps LR.vars hx LR.kept LR.room hlen
    have hfold : (r.params.zip ys).foldl (fun tmps (t, a) => tmps.setIfInBounds t a) r.tmps = (r.params.toList.zip ys.toList).foldl (fun tmps (t, a) => tmps.setIfInBounds t a) r.tmps := by
      rw [← Array.foldl_toList, Array.toList_zip]
    rw [← hfold] at v1 v2
    have hrun : (do let d ← Deferred.ofValue (.func (.yield L.blk) #[] #[]) ys; invoke d.target d.args).run P w = .ok (.round L.blk r.fn ((r.params.zip ys).foldl (fun tmps (t, a) => tmps.setIfInBounds t a) r.tmps) r.assign r.body) w := by
      simp only [Deferred.ofValue, Sem.run_bind, Sem.run_pure, Result.andThen_ok, invoke, Array.empty_append, Instr.yield, run_getLoop k1, hsz, ne_eq, not_true_eq_false, if_false]
    refine ⟨_, g :: gs, w, φ, hrd _ _ _ _ _ hrun, ⟨R, [], All D pd, ⟨LR.fn, rfl, ⟨L, hL, rfl⟩, .nil, LR.known, rfl, ?_⟩, Held.nil, ⟨g, gs, pd, D, rfl, H, HD, fun q hq => .inr ⟨q, hq, rfl⟩, fun b hb => .inl hb, St⟩, HD.low R hD⟩, Grows.refl _ φ h w⟩
    have ha : assign = comp P (keepOf P fn) (ntOf P fn) r.assign := LR.assign
    have hbd : body = comp P (keepOf P fn) (ntOf P fn) r.body := LR.body
    rw [ha, hbd, hps]
    exact .plain _ _ _ _ _ v1 v2 (.code r.assign _ _ (.begin _ _ (.code r.body [] [] .nil)))
  | _ => cases he
end

end Go.Ev
/-
  A small machine over closed data, forty-nine: operations that call, defer, panic and recover.
-/
namespace Go.Ev

noncomputable def isCall : WOp → Bool
  | .call _ _ | .calv _ _ | .inv _ _ _ | .recov | .dfr _ _ | .pnc _ => true
  | _ => false
inductive WInv (env : List (Option Tmp)) (o : Oper) : WOp → Prop where
  | call (f : FuncId) (args : Array Operand) (ats : Array TypeId) (xs : List Opd) (ho : o.op = .call ⟨.value (.func f), args, ats⟩) (hx : copds env args.toList = some xs) : WInv env o (.call f xs)
  | calv (y : Operand) (args : Array Operand) (ats : Array TypeId) (b : Opd) (xs : List Opd) (ho : o.op = .call ⟨.value y, args, ats⟩) (hy : copd env y = some b) (hx : copds env args.toList = some xs) : WInv env o (.calv b xs)
  | inv (r : Operand) (name : String) (args : Array Operand) (ats : Array TypeId) (b : Opd) (xs : List Opd) (ho : o.op = .call ⟨.invoke r name, args, ats⟩) (hy : copd env r = some b) (hx : copds env args.toList = some xs) : WInv env o (.inv b name xs)
  | recov (args : Array Operand) (ats : Array TypeId) (ho : o.op = .call ⟨.builtin .recover, args, ats⟩) : WInv env o .recov
  | dfr (y : Operand) (args : Array Operand) (ats : Array TypeId) (b : Opd) (xs : List Opd) (ho : o.op = .defer ⟨.value y, args, ats⟩) (hy : copd env y = some b) (hx : copds env args.toList = some xs) : WInv env o (.dfr b xs)
  | pnc (y : Operand) (b : Opd) (ho : o.op = .panic y) (hy : copd env y = some b) : WInv env o (.pnc b)

section
variable {P : Program} {env : List (Option Tmp)}
theorem cop_winv {o : Oper} {wo : WOp} (hc : cop? P env o = some (.w wo)) (hw : isCall wo = true) : WInv env o wo := by
  obtain ⟨dst, op, ty, ps, af, gd'⟩ := o
  cases op
  case call c =>
    unfold cop? at hc; dsimp only at hc
    obtain ⟨callee, args, ats⟩ := c
    cases callee with
    | builtin b =>
      have hb : cBuiltin P env b args.toList ats.toList = some (.w wo) := hc
      unfold cBuiltin at hb
      split at hb
      case h_6 => cases hb; exact .recov args ats rfl
      all_goals
        exfalso
        repeat' first
          | (cases hb; done)
          | (cases hb; cases hw; done)
          | split at hb
    | value y =>
      dsimp only at hc
      cases y with
      | func f =>
        dsimp only at hc
        split at hc
        · rename_i xs hx; cases hc; exact .call f args ats xs rfl hx
        · cases hc
      | _ =>
        dsimp only at hc
        split at hc
        · rename_i b xs hy hx; cases hc; exact .calv _ args ats b xs rfl hy hx
        · cases hc
    | invoke r m =>
      dsimp only at hc
      split at hc
      · rename_i b xs hy hx; cases hc; exact .inv r m args ats b xs rfl hy hx
      · cases hc
  case defer c =>
    unfold cop? at hc; dsimp only at hc
    obtain ⟨callee, args, ats⟩ := c
    cases callee with
    | value y =>
      dsimp only at hc
      split at hc
      · rename_i b xs hy hx; cases hc; exact .dfr y args ats b xs rfl hy hx
      · cases hc
    | _ => cases hc
  case panic y =>
    unfold cop? at hc; dsimp only at hc
    split at hc
    · rename_i b hy; cases hc; exact .pnc y b rfl hy
    · cases hc
  case binOp op t x y yt =>
    exfalso
    unfold cop? at hc; dsimp only at hc
    unfold cBin at hc
    split at hc
    · cases op <;> first
        | (cases hc; done)
        | exact cEq_w _ hc
    · cases hc
  case convert s d y =>
    exfalso
    unfold cop? at hc; dsimp only at hc
    unfold cConv at hc
    split at hc
    · cases hc
    · cases hc
    · split at hc
      · cases hc; cases hw
      · cases hc
    · cases hc
  case makeFunc fn first capt =>
    exfalso
    cases fn with
    | func f =>
      unfold cop? at hc; dsimp only at hc
      split at hc <;> cases hc
    | _ => cases hc
  case slice t y lo hi mx =>
    exfalso
    unfold cop? at hc; dsimp only at hc
    cases mx with
    | some m => cases hc
    | none =>
      dsimp only at hc
      split at hc
      · cases hc
      · split at hc <;> cases hc
      · cases hc
  case buildSlice t len parts =>
    exfalso
    unfold cop? at hc; dsimp only at hc
    split at hc
    · split at hc
      · split at hc
        · obtain ⟨_, hc⟩ := gd_inv hc
          obtain ⟨_, hc⟩ := gd_inv hc
          cases hc
        · cases hc
      · cases hc
    · cases hc
  case makeMap t r =>
    exfalso
    cases r with
    | none => cases hc
    | some y =>
      cases y with
      | const v =>
        cases v with
        | int k n =>
          unfold cop? at hc; dsimp only at hc
          split at hc <;> cases hc
        | _ => cases hc
      | _ => cases hc
  case makeSlice t l c =>
    exfalso
    unfold cop? at hc; dsimp only at hc
    split at hc
    · split at hc
      · obtain ⟨_, hc⟩ := gd_inv hc
        cases hc; cases hw
      · cases hc
    · cases hc
  all_goals
    exfalso
    unfold cop? at hc; dsimp only at hc
    repeat' first
      | (cases hc; done)
      | (cases hc; cases hw; done)
      | split at hc
end

section
variable {P : Program} {fn : FuncId} {tmps : Array Value} {ds : List Deferred} {kind : CallKind} {ro : Option Nat} {k k' : List Item} {cs : List Frame} {w w' : World}
variable {ops : Array Oper} {i : Nat} {rest : List Nat} {o : Oper}
theorem s_enter {f : FuncId} {ys : Array Value} (ho : ops[i]? = some o) (hw : Region.wanted o (yielded ops tmps) = true) (hd : ro = none ∨ ∀ c, o.op ≠ .defer c) (hr : (execOp (evT tmps) o).run P w = .ok (.enter f ys) w') :
    Go.step P (lone ⟨fn, tmps, .inRegion ops (i :: rest) :: k, ds, .run, kind, ro⟩ cs w) = .next (lone (Frame.enter P f ys .normal) (⟨fn, tmps, .inRegion ops (i :: rest) :: k, ds, .run, kind, ro⟩ :: cs) w') :=
  step_lone_go (by rw [stepG_oper ho hw hd]; simp [stepG.apply, hr])
theorem s_round {l : Nat} {f : FuncId} {tm : Array Value} {a b : Code} (ho : ops[i]? = some o) (hw : Region.wanted o (yielded ops tmps) = true) (hd : ro = none ∨ ∀ c, o.op ≠ .defer c) (hr : (execOp (evT tmps) o).run P w = .ok (.round l f tm a b) w') :
    Go.step P (lone ⟨fn, tmps, .inRegion ops (i :: rest) :: k, ds, .run, kind, ro⟩ cs w) = .next (lone (Frame.round l f tm a b .normal) (⟨fn, tmps, .inRegion ops (i :: rest) :: k, ds, .run, kind, ro⟩ :: cs) w') :=
  step_lone_go (by rw [stepG_oper ho hw hd]; simp [stepG.apply, hr])
theorem s_defer {d : Deferred} (ho : ops[i]? = some o) (hw : Region.wanted o (yielded ops tmps) = true) (hr : (execOp (evT tmps) o).run P w = .ok (.defer d) w') :
    Go.step P (lone ⟨fn, tmps, .inRegion ops (i :: rest) :: k, ds, .run, kind, none⟩ cs w) = .next (lone ⟨fn, putT tmps o.dst undef, .inRegion ops rest :: k, d :: ds, .run, kind, none⟩ cs w') := by
  rw [← finish_op ho]
  exact step_lone_go (by rw [stepG_oper ho hw (.inl rfl)]; simp [stepG.apply, hr])
theorem s_panic {v : Value} (ho : ops[i]? = some o) (hw : Region.wanted o (yielded ops tmps) = true) (hd : ro = none ∨ ∀ c, o.op ≠ .defer c) (hr : (execOp (evT tmps) o).run P w = .halt (.panic v) w') :
    Go.step P (lone ⟨fn, tmps, .inRegion ops (i :: rest) :: k, ds, .run, kind, ro⟩ cs w) = .next (lone ⟨fn, tmps, .inRegion ops (i :: rest) :: k, ds, .panicking [⟨v, false, false⟩], kind, ro⟩ cs w') :=
  step_lone_go (by rw [stepG_oper ho hw hd]; simp [stepG.apply, hr, Frame.raise])
theorem s_recover_none (ho : ops[i]? = some o) (hw : Region.wanted o (yielded ops tmps) = true) (hr : (execOp (evT tmps) o).run P w = .ok .recover w') (ht : tryRecover ⟨fn, tmps, .inRegion ops (i :: rest) :: k, ds, .run, kind, none⟩ cs = none) :
    Go.step P (lone ⟨fn, tmps, .inRegion ops (i :: rest) :: k, ds, .run, kind, none⟩ cs w) = .next (lone ⟨fn, putT tmps o.dst .nilIface, .inRegion ops rest :: k, ds, .run, kind, none⟩ cs w') := by
  rw [← finish_op ho]
  exact step_lone_go (by rw [stepG_oper ho hw (.inl rfl)]; simp [stepG.apply, hr, ht])
theorem s_recover_some {v : Value} {cs' : List Frame} (ho : ops[i]? = some o) (hw : Region.wanted o (yielded ops tmps) = true) (hr : (execOp (evT tmps) o).run P w = .ok .recover w') (ht : tryRecover ⟨fn, tmps, .inRegion ops (i :: rest) :: k, ds, .run, kind, none⟩ cs = some (v, cs')) :
    Go.step P (lone ⟨fn, tmps, .inRegion ops (i :: rest) :: k, ds, .run, kind, none⟩ cs w) = .next (lone ⟨fn, putT tmps o.dst v, .inRegion ops rest :: k, ds, .run, kind, none⟩ cs' w') := by
  rw [← finish_op ho]
  exact step_lone_go (by rw [stepG_oper ho hw (.inl rfl)]; simp [stepG.apply, hr, ht])
end

end Go.Ev
/-
  A small machine over closed data, fifty: steps in a region, four: what calls, defers, panics, recovers.
-/
namespace Go.Ev

section
variable {P : Program} {φ : Map} {h : AHeap} {w : World} {cs0 : Bot} {D : Pos → Prop} {pd : List (Nat × Pos)} {cs : List AFrame} {gs : List Frame}

theorem VarsR.dels {K : Nat → Bool} {vars : T AV} {tmps : Array Value} (H : VarsR K φ vars tmps) (l : List Pos) : VarsR K φ (dels vars l) tmps := by
  intro t v hv
  rw [dels_get] at hv
  split at hv
  · cases hv
  · exact H t v hv
theorem raised_eq (m : AMode) (vs : List (AV × Bool)) : raised m vs = .panicking (match m with | .panicking c => vs ++ c | _ => vs) := by
  cases m with
  | panicking c => show AMode.panicking (app vs c) = _; rw [app_eq]
  | _ => rfl
noncomputable def rv (todo : List AItem) (vars : T AV) : T AV := match todo with | .run _ d :: _ => dels vars d | _ => vars
theorem raise_def (x : AFix) (ads : List ADef) (m : AMode) (vars : T AV) (loc : List AV) (todo : List AItem) (vs : List (AV × Bool)) : raise ⟨x, ads, m, vars, loc, todo⟩ vs = ⟨x, ads, raised m vs, rv todo vars, [], todo⟩ := rfl
/-- a frame in which a panic arrives -/
theorem raise_rel {fr : AFrame} {g : Frame} (H : FrR P φ h true pd fr g) {vs : List (AV × Bool)} {es : List PanicEntry} (hc : ChainR φ vs es) : FrR P φ h false [] (raise fr vs) (g.raise es) := by
  obtain ⟨x, ads, m, vars, loc, todo⟩ := fr
  obtain ⟨fn, tmps, todo', ds, mode, kind, ro⟩ := g
  rw [raise_def]
  have hb := H.body
  cases m with
  | run =>
    obtain ⟨hm, B⟩ := hb
    cases hm
    refine ⟨H.fn, H.kind, H.round, H.defers, H.known, es, rfl, hc, ?_, rfl⟩
    have B : BodyR P (keepOf P x.fn) (ntOf P x.fn) φ h true vars loc todo tmps todo' pd := B
    show VarsR (keepOf P x.fn) φ (rv todo vars) tmps
    clear H
    cases B with
    | plain _ _ _ _ _ hv hn ht => cases ht <;> exact hv
    | cnd _ _ y c a b k _ k' hv hn hx ht => exact hv
    | reg ops bef h₀ pre left cs is rest vals _ _ _ dirty k k' S U hd ht hh hp hs =>
      obtain ⟨i, left', rest', kp, gu, wo, is0, rfl, rfl, rfl, rfl⟩ := hs rfl
      exact S.fall hd
  | returning =>
    obtain ⟨hm, hv, _⟩ := hb
    cases hm
    refine ⟨H.fn, H.kind, H.round, H.defers, H.known, es, rfl, hc, ?_, rfl⟩
    show VarsR (keepOf P x.fn) φ (rv todo vars) tmps
    unfold rv
    split
    · exact hv.dels _
    · exact hv
  | panicking c =>
    obtain ⟨d, hm, hcd, hv, _⟩ := hb
    cases hm
    refine ⟨H.fn, H.kind, H.round, H.defers, H.known, ?_⟩
    rw [raised_eq]
    refine ⟨es ++ d, rfl, hc.append hcd, ?_, rfl⟩
    show VarsR (keepOf P x.fn) φ (rv todo vars) tmps
    unfold rv
    split
    · exact hv.dels _
    · exact hv
end

section
variable {P : Program} {φ φ' : Map} {h h' : AHeap} {w w' : World} {cs0 : Bot} {D : Pos → Prop} {x : AFix} {ads : List ADef} {fn : FuncId} {kind : CallKind} {ro : Option Nat} {ds : List Deferred} {ops : Array Oper} {bef : Nat → Nat → Prop}
variable {pre : List Nat} {i : Nat} {left rest : List Nat} {o : Oper} {g : Option (Nat × Bool)} {a : AOp} {ks is : List AIns} {vals : Nat → AV} {vars : T AV} {tmps : Array Value} {pd : List (Nat × Pos)} {dirty : List Pos} {k : List AItem} {k' : List Item} {cs : List AFrame} {gs : List Frame}
variable {F : FuncId → Option AFunc} {X : FuncId → Option Ext}

theorem WAt.fr {wo : WOp} (W : WAt P φ h w cs0 D x ads fn kind ro ds ops bef pre i left rest o g (.w wo) ks is vals vars tmps pd dirty k k' cs gs) :
    FrR P φ h true pd (cur x ads vars (pre.map vals) (keepT (keepOf P x.fn) o.dst) g (.w wo) (ks ++ is) dirty k) ⟨fn, tmps, .inRegion ops (i :: rest) :: k', ds, .run, kind, ro⟩ :=
  ⟨W.top.fn, W.top.kind, W.top.round, W.top.defers, W.top.known, rfl, BodyR.reg (s := true) ops bef h pre (i :: left) [] _ (i :: rest) vals vars tmps pd dirty k k' W.S W.U W.hd W.ht (by simp) (fun _ _ _ h => h) (fun _ => ⟨i, left, rest, _, _, wo, _, rfl, rfl, rfl, rfl⟩)⟩

theorem methodOf_run {t : TypeId} {name : String} {f : FuncId} (hm : methodOf P t name = some f) (v : Value) (n : Nat) : (Go.method (n + 1) t v name).run P w = .ok (f, v) w := by
  unfold methodOf at hm
  split at hm
  · rename_i ti hti
    split at hm
    · rename_i m hfind
      cases hp : m.path.isEmpty with
      | false => rw [hp] at hm; cases hm
      | true =>
        rw [hp] at hm
        have hpath : m.path = #[] := by simpa using hp
        have htl : m.path.toList = [] := by rw [hpath]
        dsimp only [cond_true] at hm
        split at hm
        · rename_i f' e hf hu
          cases hm
          simp [Go.method, typeInfo, hti, hfind, htl, follow, hf, receiverAt, run_underlying hu, Place.get]
        · cases hm
        · rename_i f' d hno hf hu
          cases hm
          simp only [Go.method, typeInfo, Sem.run_bind, run_program, Result.andThen_ok, hti, hfind, htl, follow, Sem.run_pure, hf, receiverAt, run_underlying hu]
          cases d <;> first | simp [Place.get] | exact absurd rfl (hno _ _)
        · cases hm
    · cases hm
  · cases hm

theorem WAt.call (HF : FOk P F) (HX : XOk P X cs0) {wo : WOp} (W : WAt P φ h w cs0 D x ads fn kind ro ds ops bef pre i left rest o g (.w wo) ks is vals vars tmps pd dirty k k' cs gs) (hr : wanted g (pre.map vals) = some true) (hw : isCall wo = true) {c' : ACfg}
    (he : wcall P F X wo x ads vars (pre.map vals) cs h (keepT (keepOf P x.fn) o.dst) g (ks ++ is) dirty k = some c') : Goal P φ cs0 h ⟨fn, tmps, .inRegion ops (i :: rest) :: k', ds, .run, kind, ro⟩ gs w c' := by
  have hop := W.S.opdR W.U W.A
  have hwt := W.S.guard W.U W.A hr
  rcases cop_cases W.A.act with rfl | hc
  · cases hw
  have hI := cop_winv hc hw
  have hlist : ∀ (l : List Opd) (args : Array Operand) (ys : List AV), (∀ y ∈ l, y ∈ wopds wo) → copds (envOf ops pre) args.toList = some l → mapO (fun y => opd y (pre.map vals) vars) l = some ys → VRs φ ys (args.map (evT tmps)).toList := by
    intro l args ys hl h1 h2
    rw [mapO_congr (σ := only (wopds wo) (fun y => opd y (pre.map vals) vars)) fun y hy => only_all y (hl y hy)] at h2
    rw [Array.toList_map]
    exact hop.list _ _ _ h1 h2
  have hone : ∀ (b : Opd) (y : Operand) (v : AV), b ∈ wopds wo → copd (envOf ops pre) y = some b → opd b (pre.map vals) vars = some v → VR φ v (evT tmps y) := by
    intro b y v hb h1 h2
    refine hop y b v h1 ?_
    rw [← h2]; exact (only_all b hb).symm
  cases hI with
  | call f args ats xs ho hx =>
    obtain ⟨ys, h1, h2⟩ := ob_inv (o := mapO (fun y => opd y (pre.map vals) vars) xs) he
    have hys := hlist xs args ys (fun y hy => hy) hx h1
    have hnd : ∀ c, o.op ≠ .defer c := by rw [ho]; intro c hc; cases hc
    refine callF_rel HF HX W.fr W.HD W.St W.hD W.R W.frm hys (fun hrun => .one (s_enter W.A.op hwt (.inr hnd) ?_)) h2
    simp only [execOp, ho, resolve, Sem.run_bind, Sem.run_pure, Result.andThen_ok, Deferred.ofValue, evT, invoke, Array.empty_append, Array.append_empty]
    exact hrun
  | calv y args ats b xs ho hy hx =>
    obtain ⟨fv, h0, h2⟩ := ob_inv (o := opd b (pre.map vals) vars) he
    obtain ⟨ys, h1, h2⟩ := ob_inv (o := mapO (fun y => opd y (pre.map vals) vars) xs) h2
    have hys := hlist xs args ys (fun y hy => by simp [wopds, hy]) hx h1
    have hfv := hone b y fv (by simp [wopds]) hy h0
    have hnd : ∀ c, o.op ≠ .defer c := by rw [ho]; intro c hc; cases hc
    have hex : ∀ nx, (do let d ← Deferred.ofValue (evT tmps y) (args.map (evT tmps)); invoke d.target d.args).run P w = .ok nx w → (execOp (evT tmps) o).run P w = .ok nx w := by
      intro nx h3
      simp only [execOp, ho, resolve]
      exact h3
    exact callV_rel HF HX W.fr W.HD W.St W.hD W.R W.frm hfv hys (fun f zs h3 => .one (s_enter W.A.op hwt (.inr hnd) (hex _ h3))) (fun l f tm a b h3 => .one (s_round W.A.op hwt (.inr hnd) (hex _ h3))) h2
  | inv r name args ats b xs ho hy hx =>
    obtain ⟨rv, h0, h2⟩ := ob_inv (o := opd b (pre.map vals) vars) he
    obtain ⟨t, v, rfl, h2⟩ := onIface_inv (v := rv) h2
    obtain ⟨ys, h1, h2⟩ := ob_inv (o := mapO (fun y => opd y (pre.map vals) vars) xs) h2
    obtain ⟨f, h3, h2⟩ := ob_inv (o := methodOf P t name) h2
    have hys := hlist xs args ys (fun y hy => by simp [wopds, hy]) hx h1
    have hrv := hone b r _ (by simp [wopds]) hy h0
    have hnd : ∀ c, o.op ≠ .defer c := by rw [ho]; intro c hc; cases hc
    generalize hru : evT tmps r = ru at hrv
    cases hrv with
    | iface _ _ u hu =>
      have hall : VRs φ (v :: ys) (#[u] ++ args.map (evT tmps)).toList := by
        rw [Array.toList_append]; exact .cons _ _ _ _ hu hys
      refine callF_rel HF HX W.fr W.HD W.St W.hD W.R W.frm hall (fun hrun => .one (s_enter W.A.op hwt (.inr hnd) ?_)) h2
      have hex : (#[Value.iface t u] ++ args.map (evT tmps)).extract 1 (#[Value.iface t u] ++ args.map (evT tmps)).size = args.map (evT tmps) := by
        apply Array.toList_inj.mp
        rw [Array.toList_extract, List.extract_eq_take_drop, Array.toList_append]
        show List.take _ (List.drop 1 (Value.iface t u :: (args.map (evT tmps)).toList)) = _
        rw [List.drop_succ_cons, List.drop_zero]
        refine List.take_of_length_le ?_
        rw [Array.size_append, Array.length_toList]
        show _ ≤ 1 + _ - 1
        omega
      have h0' : (#[Value.iface t u] ++ args.map (evT tmps))[0]? = some (.iface t u) := by
        rw [Array.getElem?_append_left (by show 0 < 1; omega)]; rfl
      obtain ⟨n, hn⟩ : ∃ n, P.types.size + Made.depth = n + 1 := ⟨P.types.size + 99, rfl⟩
      simp only [execOp, ho, resolve, Sem.run_bind, Sem.run_pure, Result.andThen_ok, hru, invoke, h0', hex, callMethod, run_program, hn, methodOf_run h3]
      exact hrun
  | recov args ats ho =>
    have hnd : ∀ c, o.op ≠ .defer c := by rw [ho]; intro c hc; cases hc
    obtain ⟨xf, kd, rd⟩ := x
    have he : recov ⟨xf, kd, rd⟩ ads vars (pre.map vals) cs h (keepT (keepOf P xf) o.dst) (ks ++ is) dirty k = some c' := he
    cases rd with
    | some b => cases he
    | none =>
      have hro : ro = none := by
        have := W.top.round
        cases ro with
        | none => rfl
        | some l => exact this.elim
      subst hro
      have hkind : kind = kd := W.top.kind
      subst hkind
      have hrun : (execOp (evT tmps) o).run P w = .ok .recover w := by
        simp [execOp, ho, resolve, invoke, builtin]
      have nilcase : ∀ c', tryRecover ⟨fn, tmps, .inRegion ops (i :: rest) :: k', ds, .run, kind, none⟩ gs = none → some (⟨push ⟨xf, kind, none⟩ ads vars (pre.map vals) (keepT (keepOf P xf) o.dst) .nili (ks ++ is) dirty k, cs, h⟩ : ACfg) = some c' →
          Goal P φ cs0 h ⟨fn, tmps, .inRegion ops (i :: rest) :: k', ds, .run, kind, none⟩ gs w c' := by
        intro c' ht hc
        cases hc
        exact ⟨_, gs, w, φ, .one (s_recover_none W.A.op hwt hrun ht), W.done W.R (Grows.refl _ φ h w) .nili W.top.defers, Grows.refl _ φ h w⟩
      cases kind with
      | normal => exact nilcase c' (by cases gs <;> rfl) he
      | deferred =>
        cases cs with
        | nil => cases he
        | cons c cs =>
          obtain ⟨g2, gs', pd2, D2, rfl, H2, HD2, hp2, hDD, St2⟩ := W.St
          obtain ⟨y, es, m, vars2, loc2, todo2⟩ := c
          obtain ⟨fn2, tmps2, todo2', ds2, mode2, kind2, ro2⟩ := g2
          cases m with
          | run =>
            obtain ⟨hm, _⟩ := H2.body
            cases hm
            exact nilcase c' rfl he
          | returning =>
            obtain ⟨hm, _⟩ := H2.body
            cases hm
            exact nilcase c' rfl he
          | panicking ch =>
            obtain ⟨d, hm, hcd, hv, hpd⟩ := H2.body
            cases hm
            cases hcd with
            | nil => exact nilcase c' rfl he
            | cons v b u ch d hvu hrest =>
              cases b with
              | true => exact nilcase c' rfl he
              | false =>
                have he : some (⟨push ⟨xf, .deferred, none⟩ ads vars (pre.map vals) (keepT (keepOf P xf) o.dst) v (ks ++ is) dirty k, ⟨y, es, .panicking ((v, true) :: ch), vars2, loc2, todo2⟩ :: cs, h⟩ : ACfg) = some c' := he
                cases he
                have ht : tryRecover ⟨fn, tmps, .inRegion ops (i :: rest) :: k', ds, .run, .deferred, none⟩ (⟨fn2, tmps2, todo2', ds2, .panicking (⟨u, false, false⟩ :: d), kind2, ro2⟩ :: gs') =
                    some (u, ⟨fn2, tmps2, todo2', ds2, .panicking (⟨u, true, false⟩ :: d), kind2, ro2⟩ :: gs') := rfl
                have Hnew : FrR P φ h true pd2 ⟨y, es, .panicking ((v, true) :: ch), vars2, loc2, todo2⟩ ⟨fn2, tmps2, todo2', ds2, .panicking (⟨u, true, false⟩ :: d), kind2, ro2⟩ :=
                  ⟨H2.fn, H2.kind, H2.round, H2.defers, H2.known, _, rfl, .cons v true u ch d hvu hrest, hv, hpd⟩
                have W' : WAt P φ h w cs0 D ⟨xf, .deferred, none⟩ ads fn .deferred none ds ops bef pre i left rest o g (.w .recov) ks is vals vars tmps pd dirty k k' (⟨y, es, .panicking ((v, true) :: ch), vars2, loc2, todo2⟩ :: cs) (⟨fn2, tmps2, todo2', ds2, .panicking (⟨u, true, false⟩ :: d), kind2, ro2⟩ :: gs') :=
                  ⟨W.S, W.U, W.A, W.G, W.hs, W.hd, W.ht, W.top, W.HD, ⟨_, gs', pd2, D2, rfl, Hnew, HD2, hp2, hDD, St2⟩, W.hD, W.R, W.frm⟩
                exact ⟨_, _, w, φ, .one (s_recover_some W.A.op hwt hrun ht), W'.done W.R (Grows.refl _ φ h w) hvu W.top.defers, Grows.refl _ φ h w⟩
      | _ => cases he
  | dfr y args ats b xs ho hy hx =>
    obtain ⟨xf, kd, rd⟩ := x
    cases rd with
    | some b => cases he
    | none =>
      have he : (ob (opd b (pre.map vals) vars) fun fv => onFunc fv (fun g first capt => ob (mapO (fun x => opd x (pre.map vals) vars) xs) fun ys =>
        some (⟨push ⟨xf, kd, none⟩ (⟨.fn g capt, app first ys⟩ :: ads) vars (pre.map vals) (keepT (keepOf P xf) o.dst) (.tup []) (ks ++ is) dirty k, cs, h⟩ : ACfg)) none) = some c' := he
      obtain ⟨fv, h0, h2⟩ := ob_inv he
      obtain ⟨f, first, capt, rfl, h2⟩ := onFunc_inv (v := fv) h2
      obtain ⟨ys, h1, h2⟩ := ob_inv h2
      cases h2
      have hys := hlist xs args ys (fun y hy => by simp [wopds, hy]) hx h1
      have hfv := hone b y _ (by simp [wopds]) hy h0
      have hro : ro = none := by
        have := W.top.round
        cases ro with
        | none => rfl
        | some l => exact this.elim
      subst hro
      generalize hfu : evT tmps y = fu at hfv
      cases hfv with
      | func _ _ _ fi ca hv1 hv2 =>
        have hrun : (execOp (evT tmps) o).run P w = .ok (.defer ⟨.fn (.func f) ca, fi ++ args.map (evT tmps)⟩) w := by
          simp only [execOp, ho, resolve, Sem.run_bind, hfu, Deferred.ofValue, Sem.run_pure, Result.andThen_ok]
        have hds : DefsR φ (⟨.fn f capt, app first ys⟩ :: ads) (⟨.fn (.func f) ca, fi ++ args.map (evT tmps)⟩ :: ds) := by
          refine .cons _ _ _ _ (.fn f capt _ ca _ hv2 ?_) W.top.defers
          rw [app_eq, Array.toList_append]
          exact hv1.append hys
        exact ⟨_, gs, w, φ, .one (s_defer W.A.op hwt hrun), W.done W.R (Grows.refl _ φ h w) (.tup [] #[] .nil) hds, Grows.refl _ φ h w⟩
  | pnc y b ho hy =>
    obtain ⟨pv, h0, h2⟩ := ob_inv (o := opd b (pre.map vals) vars) he
    obtain ⟨t, v, rfl, h2⟩ := onIface_inv (v := pv) h2
    cases h2
    have hpv := hone b y _ (by simp [wopds]) hy h0
    have hnd : ∀ c, o.op ≠ .defer c := by rw [ho]; intro c hc; cases hc
    generalize hpu : evT tmps y = pu at hpv
    cases hpv with
    | iface _ _ u hu =>
      have hrun : (execOp (evT tmps) o).run P w = .halt (.panic (.iface t u)) w := by
        simp [execOp, ho, hpu, Instr.panic]
      have Hr := raise_rel W.fr (vs := [(.iface t v, false)]) (es := [⟨.iface t u, false, false⟩]) (.cons _ _ _ _ _ (.iface t v u hu) .nil)
      exact ⟨_, gs, w, φ, .one (s_panic W.A.op hwt (.inr hnd) hrun), ⟨W.R, [], D, Hr, Held.nil, W.St, W.hD⟩, Grows.refl _ φ h w⟩
end

end Go.Ev
/-
  A small machine over closed data, fifty-one: a region's steps.
-/
namespace Go.Ev

section
variable {P : Program} {φ φ' : Map} {h h' : AHeap} {w w' : World} {cs0 : Bot} {D : Pos → Prop} {x : AFix} {ads : List ADef} {fn : FuncId} {kind : CallKind} {ro : Option Nat} {ds : List Deferred} {ops : Array Oper} {bef : Nat → Nat → Prop}
variable {pre left : List Nat} {rest : List Nat} {ks is : List AIns} {vals : Nat → AV} {vars : T AV} {loc : List AV} {tmps : Array Value} {pd : List (Nat × Pos)} {dirty : List Pos} {todo : List AItem} {k : List AItem} {k' : List Item} {cs : List AFrame} {gs : List Frame}
variable {F : FuncId → Option AFunc} {X : FuncId → Option Ext}

theorem CfgR.grows_goal {c' : ACfg} {m : Machine} {φ₁ : Map} {w₁ : World} {g : Frame} (G : Grows cs0.B φ φ₁ h h w w₁) (hm : Steps P (lone g gs w) m) (H : GoalM P φ₁ cs0 h m w₁ c') : Goal P φ cs0 h g gs w c' := by
  obtain ⟨g', gs', w', φ', h1, h2, h3⟩ := H
  exact ⟨g', gs', w', φ', hm.trans h1, h2, G.trans h3⟩

/-- the steps of a region -/
theorem sim_run (HF : FOk P F) (HX : XOk P X cs0) (T : TopR P φ x ads fn kind ro ds) (HD : Held φ h D pd) (St : StkR P φ h cs0 D cs gs) (hD : ∀ b, D b → b.toNat < h.next.toNat) (R : Rep P φ h w) (Fr : From cs0 φ h w)
    (S : RegS P (keepOf P x.fn) (ntOf P x.fn) ops bef φ h pre left ks is rest vals vars tmps pd) (U : Once (ntOf P x.fn) ops) (hd : (∀ j t, dstAt ops j = some t → keepOf P x.fn t = true → pos t ∈ dirty) ∨ ∀ i j, bef i j ∨ bef j i ∨ i = j)
    (ht : TailR P (keepOf P x.fn) (ntOf P x.fn) φ (envOf ops (left.reverse ++ pre)) k k') {c' : ACfg} (he : item P F X (.run (ks ++ is) dirty) x ads vars (pre.map vals) cs h k = some c') :
    Goal P φ cs0 h ⟨fn, tmps, .inRegion ops rest :: k', ds, .run, kind, ro⟩ gs w c' := by
  cases ks with
  | cons c ks =>
    obtain ⟨qo, n, rfl⟩ := S.chk c (by simp)
    have he : (ob (evq qo (fun y => opd y (dr (Nat.succ n) (pre.map vals)) vars) h) fun v => ob (nth (pre.map vals) n) fun u => gd (Ev.same 20 v u) (some (⟨⟨x, ads, .run, vars, pre.map vals, .run (ks ++ is) dirty :: k⟩, cs, h⟩ : ACfg))) = some c' := he
    obtain ⟨v, h1, he⟩ := ob_inv he
    obtain ⟨u, h2, he⟩ := ob_inv he
    obtain ⟨h3, he⟩ := gd_inv he
    cases he
    have S' := S.check h1 h2 h3
    exact ⟨_, gs, w, φ, .refl P _, mkCfg R T (.reg (s := false) ops bef h pre left ks is rest vals vars tmps pd dirty k k' S' U hd ht (fun _ => rfl) (fun _ _ _ h => h) (by simp)) HD St hD, Grows.refl _ φ h w⟩
  | nil =>
    cases is with
    | nil =>
      cases (show some (⟨⟨x, ads, .run, vars, pre.map vals, k⟩, cs, h⟩ : ACfg) = some c' from he)
      have hleft : left = [] := by
        cases left with
        | nil => rfl
        | cons i left => obtain ⟨o, g, a, cs, is, h1, _⟩ := S.ins.head; cases h1
      subst hleft
      obtain ⟨rest', tmps', φ₁, w₁, pd', k1, k2, k3, k4, k5, k6, _⟩ := drain (D := D) (fn := fn) (ds := ds) (kind := kind) (ro := ro) (k := k') (gs := gs) U (fun i left' hl => by cases hl) rest tmps φ w pd S R HD
      have := k6 rfl
      subst this
      obtain ⟨o1, o2⟩ := k2.out
      refine ⟨_, gs, w₁, φ₁, k1.trans (.one s_region_end), ?_, k5.of St⟩
      have St' := St.mono k5
      have T' := T.mono k5.le
      have ht' := ht.mono k5.le
      generalize henv : envOf ops (([] : List Nat).reverse ++ pre) = env at ht'
      cases ht' with
      | plain _ _ hp => exact mkCfg k3 T' (.plain _ _ _ _ _ o1 k2.size hp) Held.nil St' hD
      | cnd y c a b k k' hc hp =>
        refine mkCfg k3 T' (.cnd _ _ y c a b _ _ _ o1 k2.size (fun v hv => o2 c y v ?_ hv) hp) Held.nil St' hD
        rw [← hc, ← henv]; rfl
    | cons ix is0 =>
      obtain ⟨i, left', o, g, a, ks', is', rfl, rfl, rfl, A, hq, hw, hs⟩ := S.ins.cons_inv
      have he : Ev.ins P F X (.op (keepT (keepOf P x.fn) o.dst) g a) x ads vars (pre.map vals) cs h (ks' ++ is') dirty k = some c' := he
      cases ha : isW a with
      | false =>
        have := hq ha
        subst this
        obtain ⟨v, h', pd', rfl, S', HD', R', G⟩ := S.next (X := X) (F := F) U A hs ha R HD hD he
        have hD' : ∀ b, D b → b.toNat < h'.next.toNat := fun b hb => Nat.lt_of_lt_of_le (hD b hb) G.next
        exact ⟨_, gs, w, φ, .refl P _, mkCfg R' T (.reg (s := false) ops bef h' (i :: pre) left' [] is' rest _ _ tmps pd' dirty k k' S' U hd (by rw [List.reverse_cons, List.append_assoc] at ht; exact ht) (fun _ => rfl) (fun _ _ _ h => h) (by simp)) HD' (St.mono G) hD', G.of St⟩
      | true =>
        cases a with
        | w wo =>
          obtain ⟨rest', tmps', φ₁, w₁, pd', k1, k2, k3, k4, k5, _, k7⟩ := drain (D := D) (fn := fn) (ds := ds) (kind := kind) (ro := ro) (k := k') (gs := gs) U (fun i' left'' hl => by cases hl; exact A.stop ha) rest tmps φ w pd S R HD
          obtain ⟨r, rfl⟩ := k7 i left' rfl
          have W : WAt P φ₁ h w₁ cs0 D x ads fn kind ro ds ops bef pre i left' r o g (.w wo) ks' is' vals vars tmps' pd' dirty k k' cs gs :=
            ⟨k2, U, A, hw ha, hs, hd, ht.mono k5.le, T.mono k5.le, k4, St.mono k5, hD, k3, Fr.next k5⟩
          refine CfgR.grows_goal (k5.of St) k1 ?_
          obtain ⟨r, h1, h2⟩ := ob_inv (o := wanted g (pre.map vals)) he
          cases r with
          | false =>
            cases (show some (⟨push x ads vars (pre.map vals) (keepT (keepOf P x.fn) o.dst) (.tup []) (ks' ++ is') dirty k, cs, h⟩ : ACfg) = some c' from h2)
            exact W.unwanted h1
          | true =>
            have h2 : wcall P F X wo x ads vars (pre.map vals) cs h (keepT (keepOf P x.fn) o.dst) g (ks' ++ is') dirty k = some c' := h2
            cases wo with
            | call f xs => exact W.call HF HX h1 rfl h2
            | calv f xs => exact W.call HF HX h1 rfl h2
            | inv r n xs => exact W.call HF HX h1 rfl h2
            | recov => exact W.call HF HX h1 rfl h2
            | dfr f xs => exact W.call HF HX h1 rfl h2
            | pnc v => exact W.call HF HX h1 rfl h2
            | bad => cases h2
            | _ => exact W.evw h1 h2
        | _ => cases ha

/-- a region begins -/
theorem region_rel (hmix : P.follows .mixedOrders = true) (T : TopR P φ x ads fn kind ro ds) (St : StkR P φ h cs0 D cs gs) (hD : ∀ b, D b → b.toNat < h.next.toNat) (R : Rep P φ h w) (hv : VarsR (keepOf P x.fn) φ vars tmps) (hn : ntOf P x.fn ≤ tmps.size)
    {draw : Bool} {env : List (Option Tmp)} (hc : creg P (keepOf P x.fn) (ntOf P x.fn) ops draw = some (is, env, dirty)) (ht : TailR P (keepOf P x.fn) (ntOf P x.fn) φ env k k') {l : List Nat} (hl : Order P ops draw l) :
    CfgR P φ cs0 ⟨⟨x, ads, .run, vars, [], .run is dirty :: k⟩, cs, h⟩ ⟨fn, tmps, .inRegion ops l :: k', ds, .run, kind, ro⟩ gs w := by
  obtain ⟨bef, od, Pl, hord⟩ := creg_plan hmix hc
  obtain ⟨l1, l2, l3⟩ := hord l hl
  have S : RegS P (keepOf P x.fn) (ntOf P x.fn) ops bef φ h [] od [] is l (fun _ => .un) vars tmps [] :=
    ⟨Pl.ins, by simp, fun i hi => (l2 i).mpr ((Pl.full i).mp hi), fun i hi => .inr ((Pl.full i).mpr ((l2 i).mp hi)), l1, by simpa using Pl.nodup, l3, by simp, hn, by simp, fun t v hv' => ⟨(hv t v hv').1, by simp, fun _ => (hv t v hv').2⟩, fun new j pj hp => by cases new <;> cases hp⟩
  have B := BodyR.reg (s := false) (h := h) ops bef h [] od [] is l (fun _ => .un) vars tmps [] dirty k k' S Pl.once Pl.dirty (by rw [List.append_nil, ← Pl.env]; exact ht) (fun _ => rfl) (fun _ _ _ h => h) (by simp)
  exact mkCfg R T B Held.nil St hD
end

end Go.Ev
/-
  A small machine over closed data, fifty-two: returns, and frames that leave.
-/
namespace Go.Ev

section
variable {P : Program} {φ φ' : Map} {h h' : AHeap} {w w' : World} {cs0 : Bot} {D : Pos → Prop} {x : AFix} {ads : List ADef} {fn : FuncId} {kind : CallKind} {ro : Option Nat} {ds : List Deferred}
variable {vars : T AV} {loc : List AV} {tmps : Array Value} {pd : List (Nat × Pos)} {todo : List AItem} {todo' : List Item} {k : List AItem} {k' : List Item} {cs : List AFrame} {gs : List Frame}
variable {F : FuncId → Option AFunc} {X : FuncId → Option Ext}

noncomputable def resV (tmps : Array Value) : ResultVar → Sem Value
  | .tmp t => pure (tmps.getD t undef)
  | .cell a t => do loadVar t (← asAddr (tmps.getD a undef))
theorem ress_rel (R : Rep P φ h w) {K : Nat → Bool} (hv : VarsR K φ vars tmps) : ∀ (l : List ResultVar) (rs : List ARes) (vs : List AV), ress P l = some rs → mapO (resOf vars h) rs = some vs → ∃ us : List Value, (l.mapM (resV tmps)).run P w = .ok us w ∧ VRs φ vs us := by
  intro l
  induction l with
  | nil => intro rs vs h1 h2; cases h1; cases (show some [] = some vs from h2); exact ⟨[], by simp, .nil⟩
  | cons r l ih =>
    intro rs vs h1 h2
    cases r with
    | tmp t =>
      unfold ress at h1
      split at h1
      · rename_i rs' hr
        cases h1
        rw [mapO_cons] at h2
        obtain ⟨v, h3, h4⟩ := ob_inv h2
        obtain ⟨vs', h5, h6⟩ := ob_inv h4
        cases h6
        obtain ⟨us, g1, g2⟩ := ih rs' vs' hr h5
        exact ⟨tmps.getD t undef :: us, by simp [List.mapM_cons, resV, g1], .cons _ _ _ _ (hv t v h3).2 g2⟩
      · cases h1
    | cell a t =>
      unfold ress at h1
      split at h1
      · rename_i n g rs' hn hg hr
        cases h1
        rw [mapO_cons] at h2
        obtain ⟨v, h3, h4⟩ := ob_inv h2
        obtain ⟨vs', h5, h6⟩ := ob_inv h4
        cases h6
        obtain ⟨us, g1, g2⟩ := ih rs' vs' hr h5
        obtain ⟨p, h7, h8⟩ := ob_inv (o := vars.get (pos a)) h3
        have hp := (hv a p h7).2
        obtain ⟨b, o, rfl, h9⟩ := onPtr_inv (v := p) h8
        generalize hx : tmps.getD a undef = xx at hp
        cases hp with
        | ptr _ _ L hL =>
          obtain ⟨u, k1, k2⟩ := run_loadVar (w := w) R hn hg hL h9
          refine ⟨u :: us, ?_, .cons _ _ _ _ k2 g2⟩
          simp [List.mapM_cons, resV, g1, hx, asAddr, k1]
      · cases h1
theorem results_rel (HF : FOk P F) (R : Rep P φ h w) {K : Nat → Bool} (hv : VarsR K φ vars tmps) {f : FuncId} {v : AV} (hr : result F f vars h = some v) : ∃ fn u, P.funcs[f]? = some fn ∧ (results fn tmps).run P w = .ok u w ∧ VR φ v u := by
  obtain ⟨af, h1, h2⟩ := ob_inv (o := F f) hr
  obtain ⟨fn, h3, h4, _⟩ := HF f af h1
  obtain ⟨b, rs, h5, h6, rfl⟩ := compF_inv h4
  obtain ⟨l, h7, h8⟩ := ob_inv (o := mapO (resOf vars h) rs) h2
  obtain ⟨us, g1, g2⟩ := ress_rel R hv _ _ _ h6 h7
  have hrun : (results fn tmps).run P w = .ok (if h : us.toArray.size = 1 then us.toArray[0] else .tuple us.toArray) w := by
    have e : results fn tmps = (do let vs ← fn.results.mapM (resV tmps); pure (if h : vs.size = 1 then vs[0] else .tuple vs)) := rfl
    rw [e, Array.mapM_eq_mapM_toList]
    simp [g1]
  refine ⟨fn, _, h3, hrun, ?_⟩
  have hl := g2.length
  cases l with
  | nil =>
    cases g2
    cases h8
    exact .tup [] #[] .nil
  | cons a l =>
    cases l with
    | nil =>
      cases h8
      cases g2 with
      | cons _ u _ us h1 h2 => cases h2; exact h1
    | cons a2 l =>
      cases h8
      have : ¬ us.toArray.size = 1 := by simp at hl ⊢; omega
      rw [dif_neg this]
      exact .tup _ us.toArray (by simpa using g2)

/-- what becomes of a frame whose deferred call has returned -/
noncomputable def restF (g : Frame) : Frame := match g.mode with
  | .panicking ({ recovered := true, .. } :: older) => match older.dropWhile (!·.goexit) with
    | [] => { g with mode := .returning }
    | rest => { g with mode := .panicking rest }
  | _ => g
theorem ChainR.calm {c : List (AV × Bool)} {d : List PanicEntry} (H : ChainR φ c d) : d.dropWhile (!·.goexit) = [] := by
  induction H with
  | nil => rfl
  | cons v b u c d h _ ih => exact ih
theorem rested_rel {c c' : AFrame} {g : Frame} (H : FrR P φ h true pd c g) (he : rested c = some c') : FrR P φ h false pd c' (restF g) := by
  obtain ⟨x, ads, m, vars, loc, todo⟩ := c
  obtain ⟨fn, tmps, todo', ds, mode, kind, ro⟩ := g
  have hb := H.body
  cases m with
  | run => cases he
  | returning =>
    cases he
    obtain ⟨hm, hv, hp⟩ := hb
    cases hm
    exact ⟨H.fn, H.kind, H.round, H.defers, H.known, rfl, hv, hp⟩
  | panicking ch =>
    obtain ⟨d, hm, hc, hv, hp⟩ := hb
    cases hm
    cases hc with
    | nil => cases he; exact ⟨H.fn, H.kind, H.round, H.defers, H.known, [], rfl, .nil, hv, hp⟩
    | cons v b u ch d hu hrest =>
      cases b with
      | true =>
        cases he
        have : restF ⟨fn, tmps, todo', ds, .panicking (⟨u, true, false⟩ :: d), kind, ro⟩ = ⟨fn, tmps, todo', ds, .returning, kind, ro⟩ := by
          show (match d.dropWhile (!·.goexit) with | [] => _ | rest => _) = _
          rw [hrest.calm]
        rw [this]
        exact ⟨H.fn, H.kind, H.round, H.defers, H.known, rfl, hv, hp⟩
      | false =>
        cases he
        exact ⟨H.fn, H.kind, H.round, H.defers, H.known, _, rfl, .cons v false u ch d hu hrest, hv, hp⟩

/-- where a value goes -/
noncomputable def toF (kind : CallKind) (g : Frame) (u : Value) : Frame := match kind with
  | .normal => g.finish u
  | _ => restF g
theorem back_rel (St : StkR P φ h cs0 D cs gs) (hD : ∀ b, D b → b.toNat < h.next.toNat) (R : Rep P φ h w) {v : AV} {u : Value} (hv : VR φ v u) {c : AFrame} {cs' : List AFrame} (hcs : cs = c :: cs') {c' : ACfg} (he : back kind v c cs' h = some c') :
    ∃ g gs', gs = g :: gs' ∧ (kind = .normal ∨ kind = .deferred) ∧ c'.h = h ∧ CfgR P φ cs0 c' (toF kind g u) gs' w := by
  subst hcs
  obtain ⟨g, gs', pd, D0, rfl, H, HD, h1, h2, St'⟩ := St
  have hD0 : ∀ b, D0 b → b.toNat < h.next.toNat := fun b hb => hD b (h2 b hb)
  cases kind with
  | normal =>
    obtain ⟨fr', h3, h4⟩ := ob_inv (o := finish c v) he
    cases h4
    exact ⟨g, gs', rfl, .inl rfl, rfl, finish_rel (E := D) H HD St' hD0 R hv h3⟩
  | deferred =>
    obtain ⟨fr', h3, h4⟩ := ob_inv (o := rested c) he
    cases h4
    exact ⟨g, gs', rfl, .inr rfl, rfl, R, pd, D0, rested_rel H h3, HD, St', hD0⟩
  | _ => cases he

theorem s_return {f : Func} {u : Value} {g : Frame} (hf : P.funcs[fn]? = some f) (hr : (results f tmps).run P w = .ok u w) (hk : kind = .normal ∨ kind = .deferred) :
    Go.step P (lone ⟨fn, tmps, todo', [], .returning, kind, ro⟩ (g :: gs) w) = .next (lone (toF kind g u) gs w) := by
  rcases hk with rfl | rfl
  · exact step_lone_go (by simp [stepG, Go.unwind, doReturn, hf, hr, toF])
  · refine step_lone_go ?_
    obtain ⟨gfn, gtmps, gtodo, gds, gm, gk, gro⟩ := g
    simp only [stepG, Go.unwind, hf, Sem.runT_eq, hr, doReturn, toF, restF]
    rfl
theorem s_round_end {l : Nat} {u : Value} {g : Frame} (hr : (Instr.endRound l none).run P w = .ok u w') (hk : kind = .normal ∨ kind = .deferred) :
    Go.step P (lone ⟨fn, tmps, [], ds, .run, kind, some l⟩ (g :: gs) w) = .next (lone (toF kind g u) gs w') := by
  rcases hk with rfl | rfl
  · exact step_lone_go (by simp [stepG, stepG.exec, hr, doReturn, toF])
  · refine step_lone_go ?_
    obtain ⟨gfn, gtmps, gtodo, gds, gm, gk, gro⟩ := g
    simp only [stepG, stepG.exec, Sem.runT_eq, hr, doReturn, toF, restF]
    rfl
theorem s_round_ret {l : Nat} {u : Value} {g : Frame} {kk : List Item} (hr : (Instr.endRound l (some .ret)).run P w = .ok u w') (hk : kind = .normal ∨ kind = .deferred) :
    Go.step P (lone ⟨fn, tmps, .code .ret :: kk, ds, .run, kind, some l⟩ (g :: gs) w) = .next (lone (toF kind g u) gs w') := by
  rcases hk with rfl | rfl
  · exact step_lone_go (by simp [stepG, stepG.exec, hr, doReturn, toF])
  · refine step_lone_go ?_
    obtain ⟨gfn, gtmps, gtodo, gds, gm, gk, gro⟩ := g
    simp only [stepG, stepG.exec, Sem.runT_eq, hr, doReturn, toF, restF]
    rfl
theorem s_round_exit {l id : Nat} {u : Value} {g : Frame} {kk : List Item} (hx : exitTo id kk = none) (hr : (Instr.endRound l (some (.exit id))).run P w = .ok u w') (hk : kind = .normal ∨ kind = .deferred) :
    Go.step P (lone ⟨fn, tmps, .code (.exit id) :: kk, ds, .run, kind, some l⟩ (g :: gs) w) = .next (lone (toF kind g u) gs w') := by
  rcases hk with rfl | rfl
  · exact step_lone_go (by simp [stepG, stepG.exec, hx, hr, doReturn, toF])
  · refine step_lone_go ?_
    obtain ⟨gfn, gtmps, gtodo, gds, gm, gk, gro⟩ := g
    simp only [stepG, stepG.exec, hx, Option.elim, Sem.runT_eq, hr, doReturn, toF, restF]
    rfl
end

end Go.Ev
/-
  A small machine over closed data, fifty-three: frames that leave, rounds that end, plain code.
-/
namespace Go.Ev

section
variable {P : Program} {φ φ' : Map} {h h' : AHeap} {w w' : World} {cs0 : Bot} {D : Pos → Prop} {x : AFix} {ads : List ADef} {fn : FuncId} {kind : CallKind} {ro : Option Nat} {ds : List Deferred}
variable {vars : T AV} {loc : List AV} {tmps : Array Value} {pd : List (Nat × Pos)} {todo : List AItem} {todo' : List Item} {k : List AItem} {k' : List Item} {cs : List AFrame} {gs : List Frame}
variable {F : FuncId → Option AFunc} {X : FuncId → Option Ext}

/-- an object that holds no cells is written -/
theorem Rep.object (R : Rep P φ h w) (E : Pos → Prop) {b : Pos} {a y : AObj} {L : Loc} {o : Obj} (hb : h.t.get b = some a) (hL : φ b = some L) (ha : elemOf a = none) (hy : grpOf y = none) (hi : isGrp y = false) (ho : ObjR P φ y L o) :
    Rep P φ ⟨h.t.set y b, h.next⟩ { w with heap := w.heap.setIfInBounds L.blk o } ∧ Grows E φ φ h ⟨h.t.set y b, h.next⟩ w { w with heap := w.heap.setIfInBounds L.blk o } := by
  have hal : Ev.alone a h.t = h.t := by
    cases a with
    | big => cases ha
    | _ => rfl
  have h1 := R.write (w' := { w with heap := w.heap.setIfInBounds L.blk o }) hb hL hy hi ho rfl
  have h2 := R.written (w' := { w with heap := w.heap.setIfInBounds L.blk o }) E hb hL (y := y) rfl rfl rfl rfl
  rw [hal] at h1 h2
  exact ⟨h1, h2⟩

theorem setLoop_rel (R : Rep P φ h w) (E : Pos → Prop) {b : Pos} {f : ALoop → ALoop} {l : ALoop} {L : Loc} (hL : φ b = some L) (hs : setLoop h b f = some (l, h')) :
    ∃ r, w.heap[L.blk]? = some (.loop r) ∧ LoopR P φ l r ∧ ∀ r', LoopR P φ (f l) r' → Rep P φ h' { w with heap := w.heap.setIfInBounds L.blk (.loop r') } ∧ Grows E φ φ h h' w { w with heap := w.heap.setIfInBounds L.blk (.loop r') } := by
  obtain ⟨t, n⟩ := h
  obtain ⟨o, h1, h2⟩ := ob_inv (o := t.get b) hs
  obtain ⟨l', rfl, h3⟩ := onLoop_inv (v := o) h2
  cases h3
  obtain ⟨r, g1, g2⟩ := R.loop (show hget ⟨t, n⟩ b = some (.loop l) from h1) hL
  exact ⟨r, g1, g2, fun r' hr' => R.object E h1 hL rfl rfl rfl (.loop _ L r' hr')⟩

theorem run_setLoop {l : Nat} {r r0 : Loop} (hl : w.heap[l]? = some (.loop r0)) : (setObj l (.loop r)).run P w = .ok () { w with heap := w.heap.setIfInBounds l (.loop r) } := by simp [setObj, Sem.run, hl]

noncomputable def jumpC : AJump → Code
  | .ret => .ret
  | .exit id => .exit id
theorem run_endRound {l : Nat} {r : Loop} {jump : Option Code} (hl : w.heap[l]? = some (.loop r)) :
    (Instr.endRound l jump).run P w = .ok (.bool jump.isNone) { w with heap := w.heap.setIfInBounds l (.loop { r with state := if jump.isNone then .ready else .done, pending := jump }) } := by
  simp only [Instr.endRound, Sem.run_bind, run_getLoop hl, Result.andThen_ok, run_setLoop hl, Sem.run_pure]

/-- the end of a round, or of a function -/
theorem leave_rel (T : TopR P φ x ads fn kind ro ds) (St : StkR P φ h cs0 D cs gs) (hD : ∀ b, D b → b.toNat < h.next.toNat) (R : Rep P φ h w) (hv : VarsR (keepOf P x.fn) φ vars tmps) {jump : Option AJump} {c' : ACfg} (he : leave x ads vars cs h jump = some c')
    (hgo : (jump = none ∨ jump = some .ret) → ro = none → ∃ tt, Go.step P (lone ⟨fn, tmps, todo', ds, .run, kind, ro⟩ gs w) = .next (lone ⟨fn, tmps, tt, ds, .returning, kind, ro⟩ gs w))
    (hrd : ∀ l u w' g gs', ro = some l → gs = g :: gs' → (Instr.endRound l (jump.map jumpC)).run P w = .ok u w' → (kind = .normal ∨ kind = .deferred) → Go.step P (lone ⟨fn, tmps, todo', ds, .run, kind, ro⟩ gs w) = .next (lone (toF kind g u) gs' w')) :
    Goal P φ cs0 h ⟨fn, tmps, todo', ds, .run, kind, ro⟩ gs w c' := by
  obtain ⟨xf, kd, rd⟩ := x
  cases rd with
  | none =>
    have hro : ro = none := by
      have := T.round
      cases ro with
      | none => rfl
      | some l => exact this.elim
    have key : ∀ tt, CfgR P φ cs0 ⟨⟨⟨xf, kd, none⟩, ads, .returning, vars, [], []⟩, cs, h⟩ ⟨fn, tmps, tt, ds, .returning, kind, ro⟩ gs w := fun tt =>
      ⟨R, [], D, ⟨T.fn, T.kind, T.round, T.defers, T.known, rfl, hv, rfl⟩, Held.nil, St, hD⟩
    cases jump with
    | none =>
      cases (show some (⟨⟨⟨xf, kd, none⟩, ads, .returning, vars, [], []⟩, cs, h⟩ : ACfg) = some c' from he)
      obtain ⟨tt, h1⟩ := hgo (.inl rfl) hro
      exact ⟨_, gs, w, φ, .one h1, key tt, Grows.refl _ φ h w⟩
    | some j =>
      cases j with
      | ret =>
        cases (show some (⟨⟨⟨xf, kd, none⟩, ads, .returning, vars, [], []⟩, cs, h⟩ : ACfg) = some c' from he)
        obtain ⟨tt, h1⟩ := hgo (.inr rfl) hro
        exact ⟨_, gs, w, φ, .one h1, key tt, Grows.refl _ φ h w⟩
      | exit id => cases he
  | some b =>
    cases ro with
    | none => exact T.round.elim
    | some l =>
      obtain ⟨L, hL, hLl⟩ := T.round
      subst hLl
      cases cs with
      | nil => cases he
      | cons c cs =>
        have he : ∃ bb, bb = (jump.map jumpC).isNone ∧ (ob (setLoop h b (loopEnd jump)) fun r => on2 r fun _ h => back kd (.bool bb) c cs h) = some c' := by
          cases jump with
          | none => exact ⟨_, rfl, he⟩
          | some j => exact ⟨_, rfl, he⟩
        obtain ⟨bb, hb, he⟩ := he
        obtain ⟨⟨l, h'⟩, h1, h2⟩ := ob_inv he
        have h2 : back kd (.bool bb) c cs h' = some c' := h2
        obtain ⟨r, g1, g2, g3⟩ := setLoop_rel R (fun b => D b) hL h1
        have hLR : LoopR P φ (loopEnd jump l) { r with state := if (jump.map jumpC).isNone then .ready else .done, pending := jump.map jumpC } := by
          obtain ⟨a1, a2, a3, a4, a5, a6, a7, a8⟩ := l
          refine ⟨?_, ?_, g2.fn, g2.vars, g2.room, g2.params, g2.kept, g2.assign, g2.body, g2.defers, g2.known⟩
          · cases jump <;> rfl
          · cases jump with
            | none => trivial
            | some j => cases j with
              | ret => trivial
              | exit id => exact rfl
        obtain ⟨R', G⟩ := g3 _ hLR
        rw [hb] at h2
        obtain ⟨g, gs', hgs, hk, hh, hC⟩ := back_rel (St.mono G) (fun b hb => Nat.lt_of_lt_of_le (hD b hb) G.next) R' (.bool _) rfl h2
        have hkd : kind = kd := T.kind
        subst hkd
        exact ⟨_, gs', _, φ, .one (hrd L.blk _ _ g gs' rfl hgs (run_endRound g1) hk), hC, by rw [hh]; exact G.of St⟩

theorem s_unwind_fn {f : FuncId} {ca ys : Array Value} {m : FrameMode} (hm : m ≠ .run) (hr : (callFunc f (ys ++ ca)).run P w = .ok (.enter f (ys ++ ca)) w) :
    Go.step P (lone ⟨fn, tmps, todo', ⟨.fn (.func f) ca, ys⟩ :: ds, m, kind, ro⟩ gs w) = .next (lone (Frame.enter P f (ys ++ ca) .deferred) (⟨fn, tmps, todo', ds, m, kind, ro⟩ :: gs) w) := by
  cases m with
  | run => exact absurd rfl hm
  | returning => exact step_lone_go (by simp [stepG, Go.unwind, callDeferred, invoke, hr])
  | panicking c => exact step_lone_go (by simp [stepG, Go.unwind, callDeferred, invoke, hr])
theorem s_unwind_coll {l : Nat} {es : List Deferred} {m : FrameMode} (hm : m ≠ .run) (hl : w.heap[l]? = some (.deferred (some es))) {ys : Array Value} :
    Go.step P (lone ⟨fn, tmps, todo', ⟨.collected l, ys⟩ :: ds, m, kind, ro⟩ gs w) = .next (lone ⟨fn, tmps, todo', es ++ ds, m, kind, ro⟩ gs { w with heap := w.heap.setIfInBounds l (.deferred none) }) := by
  have hr : (Instr.takeDeferred l).run P w = .ok es { w with heap := w.heap.setIfInBounds l (.deferred none) } := by
    simp [Instr.takeDeferred, getObj, setObj, Sem.run, hl]
  cases m with
  | run => exact absurd rfl hm
  | returning => exact step_lone_go (by simp [stepG, Go.unwind, hr])
  | panicking c => exact step_lone_go (by simp [stepG, Go.unwind, hr])
theorem s_unwind_panic {f : Func} {c : List PanicEntry} {g : Frame} (hf : P.funcs[fn]? = some f) :
    Go.step P (lone ⟨fn, tmps, todo', [], .panicking c, kind, ro⟩ (g :: gs) w) = .next (lone (g.raise c) gs w) :=
  step_lone_go (by simp [stepG, Go.unwind, Frame.catches, hf])

theorem DefsR.append {a c : List ADef} {b d : List Deferred} (H : DefsR φ a b) (I : DefsR φ c d) : DefsR φ (a ++ c) (b ++ d) := by
  induction H with
  | nil => exact I
  | cons e f es fs h _ ih => exact .cons e f _ _ h ih

/-- a frame that leaves -/
theorem sim_unwind (HF : FOk P F) {m : AMode} {g : Frame} (hm : m ≠ .run) (H : FrR P φ h false pd ⟨x, ads, m, vars, loc, todo⟩ g) (St : StkR P φ h cs0 D cs gs) (hD : ∀ b, D b → b.toNat < h.next.toNat) (R : Rep P φ h w) {c' : ACfg}
    (he : unwind F X x m vars todo ads cs h = some c') : Goal P φ cs0 h g gs w c' := by
  obtain ⟨gfn, gtmps, gtodo, gds, gm, gk, gro⟩ := g
  have hbody : ∀ {ads' gds' loc' todo2} (hds : DefsR φ ads' gds'), FrR P φ h true [] ⟨x, ads', m, vars, loc', todo2⟩ ⟨gfn, gtmps, gtodo, gds', gm, gk, gro⟩ := by
    intro ads' gds' loc' todo2 hds
    refine ⟨H.fn, H.kind, H.round, hds, H.known, ?_⟩
    have hb := H.body
    cases m with
    | run => exact absurd rfl hm
    | returning => exact ⟨hb.1, hb.2.1, rfl⟩
    | panicking c => obtain ⟨d, h1, h2, h3, _⟩ := hb; exact ⟨d, h1, h2, h3, rfl⟩
  have hgm : gm ≠ .run := by
    have hb := H.body
    cases m with
    | run => exact absurd rfl hm
    | returning => intro h1; have := hb.1; rw [show gm = .returning from this] at h1; cases h1
    | panicking c => obtain ⟨d, h2, _⟩ := hb; intro h1; rw [show gm = .panicking d from h2] at h1; cases h1
  have hds := H.defers
  cases ads with
  | cons d ads =>
    generalize hgd : (⟨gfn, gtmps, gtodo, gds, gm, gk, gro⟩ : Frame).defers = gd at hds
    have hgd : gds = gd := hgd
    subst hgd
    cases hds with
    | cons _ e _ es h1 hs =>
      cases h1 with
      | fn f capt xs ca ys hc hx =>
        have he : orE (X f) (ob (enter F f (app xs capt) .deferred) fun g => some (⟨g, ⟨x, ads, m, vars, [], todo⟩ :: cs, h⟩ : ACfg)) (fun _ => none) = some c' := he
        cases hX : X f with
        | some e => rw [hX] at he; cases he
        | none =>
          rw [hX] at he
          obtain ⟨fr', h3, h4⟩ := ob_inv (o := enter F f (app xs capt) .deferred) he
          cases h4
          obtain ⟨af, h5, _⟩ := ob_inv (o := F f) h3
          obtain ⟨fn', h6, h7, h8⟩ := HF.callable h5
          rw [app_eq] at h3
          have hall : VRs φ (xs ++ capt) (ys ++ ca).toList := by rw [Array.toList_append]; exact hx.append hc
          have hfr := (enter_rel (h := h) (φ := φ) HF h3 hall).1
          exact ⟨_, _, w, φ, .one (s_unwind_fn hgm (run_callFunc h6 h8 h7)), ⟨R, [], D, hfr, Held.nil, ⟨_, gs, [], D, rfl, hbody hs, Held.nil, by simp, fun b hb => hb, St⟩, hD⟩, Grows.refl _ φ h w⟩
      | coll b L hL =>
        obtain ⟨t, n⟩ := h
        obtain ⟨o, h3, h4⟩ := ob_inv (o := t.get b) he
        obtain ⟨l, rfl, h5⟩ := onDefd_inv (v := o) h4
        obtain ⟨l', rfl, h6⟩ := ob_inv h5
        cases h6
        obtain ⟨ob, k1, k2⟩ := R.obj b _ L h3 hL
        have hes : ∃ es', ob = .deferred (some es') ∧ DefsR φ l' es' := by
          cases k2 with
          | defd _ _ es' hd => exact ⟨es', rfl, hd⟩
          | cells _ _ _ _ _ _ he _ => cases he
        obtain ⟨es', rfl, hd⟩ := hes
        obtain ⟨R', G⟩ := R.object (fun b => D b) h3 hL (y := .defd none) rfl rfl rfl (.taken L)
        have hh := hbody (ads' := app l' ads) (gds' := es' ++ es) (loc' := []) (todo2 := todo) (by rw [app_eq]; exact hd.append hs)
        refine ⟨_, gs, _, φ, .one (s_unwind_coll hgm k1), ⟨R', [], D, ⟨hh.fn, hh.kind, hh.round, hh.defers, hh.known, ?_⟩, Held.nil, St.mono G, hD⟩, G.of St⟩
        have hb := hh.body
        cases m with
        | run => exact absurd rfl hm
        | returning => exact hb
        | panicking c => exact hb
  | nil =>
    generalize hgd : (⟨gfn, gtmps, gtodo, gds, gm, gk, gro⟩ : Frame).defers = gd at hds
    have hgd : gds = gd := hgd
    subst hgd
    cases hds
    obtain ⟨f, hf⟩ := H.known
    have hfn : gfn = x.fn := H.fn
    subst hfn
    cases cs with
    | nil => cases he
    | cons c cs =>
      cases m with
      | run => exact absurd rfl hm
      | returning =>
        obtain ⟨hmm, hv, hp⟩ := H.body
        have hmm : gm = .returning := hmm
        subst hmm
        obtain ⟨xf, kd, rd⟩ := x
        have he : (ob (result F xf vars h) fun v => back kd v c cs h) = some c' := he
        obtain ⟨v, h1, h2⟩ := ob_inv he
        obtain ⟨fn', u, k1, k2, k3⟩ := results_rel HF R hv h1
        have hk : gk = kd := H.kind
        subst hk
        obtain ⟨g, gs', rfl, hk, hh, hC⟩ := back_rel St hD R k3 rfl h2
        exact ⟨_, gs', w, φ, .one (s_return k1 k2 hk), hC, by rw [hh]; exact Grows.refl _ φ h w⟩
      | panicking ch =>
        obtain ⟨d, hmm, hc, hv, hp⟩ := H.body
        have hmm : gm = .panicking d := hmm
        subst hmm
        cases (show some (⟨raise c ch, cs, h⟩ : ACfg) = some c' from he)
        obtain ⟨g, gs', pd2, D0, rfl, H2, HD2, h1, h2, St'⟩ := St
        exact ⟨_, gs', w, φ, .one (s_unwind_panic hf), ⟨R, [], D0, raise_rel H2 hc, Held.nil, St', fun b hb => hD b (h2 b hb)⟩, Grows.refl _ φ h w⟩
end

end Go.Ev
/-
  A small machine over closed data, fifty-four: each step.
-/
namespace Go.Ev

section
variable {P : Program} {φ φ' : Map} {h h' : AHeap} {w w' : World} {cs0 : Bot} {D : Pos → Prop} {x : AFix} {ads : List ADef} {fn : FuncId} {kind : CallKind} {ro : Option Nat} {ds : List Deferred}
variable {vars : T AV} {loc : List AV} {tmps : Array Value} {pd : List (Nat × Pos)} {todo : List AItem} {todo' : List Item} {k : List AItem} {k' : List Item} {cs : List AFrame} {gs : List Frame}
variable {F : FuncId → Option AFunc} {X : FuncId → Option Ext} {K : Nat → Bool} {N : Nat}

theorem exit_rel {id : Nat} (H : TodoR P K N φ k k') : (∀ k1, exitA id k = some k1 → ∃ k1', exitTo id k' = some k1' ∧ TodoR P K N φ k1 k1') ∧ (exitA id k = none → exitTo id k' = none) := by
  induction H with
  | nil => exact ⟨fun k1 h => (by cases h), fun _ => rfl⟩
  | inBlock i k k' hk ih =>
    have e1 : exitA id (.inBlock i :: k) = bi (Nat.beq i id) (some k) (exitA id k) := rfl
    have e2 : exitTo id (.inBlock i :: k') = if i == id then some k' else exitTo id k' := rfl
    rw [e1, e2]
    by_cases hi : i = id
    · subst hi
      rw [show Nat.beq i i = true from Nat.beq_refl i, bi_true]
      exact ⟨fun k1 h => (by cases h; exact ⟨k', by simp, hk⟩), fun h => (by cases h)⟩
    · rw [show Nat.beq i id = false by rw [← Bool.not_eq_true, Nat.beq_eq]; exact hi, bi_false, if_neg (by simpa using hi)]
      exact ih
  | code c k k' _ ih => exact ih
  | inLoop c k k' _ ih => exact ih
  | inRF b L k k' _ _ ih => exact ih
  | endRF b L k k' _ _ ih => exact ih
  | begin k k' _ ih => exact ih

/-- an operand outside regions -/
theorem opd_out (hv : VarsR K φ vars tmps) {c : Operand} {y : Opd} {v : AV} (hc : copd [] c = some y) (ho : opd y loc vars = some v) : VR φ v (evT tmps c) := by
  cases y with
  | loc q => obtain ⟨t, j, _, h1, _⟩ := copd_loc (ops := #[]) (pre := []) hc; simp at h1
  | var p => obtain ⟨t, rfl, rfl⟩ := copd_var hc; exact (hv t v ho).2
  | cst u => cases ho; exact (copd_cst hc).2 φ tmps

theorem comp_seq (a b : Code) : comp P K N (.seq a b) = .seq (comp P K N a) (comp P K N b) ∨ ∃ id ops d y t e, a = .region id ops d ∧ b = .cond y t e ∧
    comp P K N (.seq a b) = match creg P K N ops d with
      | some (is, env, dirty) => match copd env y with
        | some y => .rcond is dirty y (comp P K N t) (comp P K N e)
        | none => .bad
      | none => .bad := by
  cases a with
  | region id ops d =>
    cases b with
    | cond y t e => exact .inr ⟨id, ops, d, y, t, e, rfl, rfl, rfl⟩
    | _ => exact .inl rfl
  | _ => exact .inl rfl

theorem branch_rel (T : TopR P φ x ads fn kind ro ds) (St : StkR P φ h cs0 D cs gs) (hD : ∀ b, D b → b.toNat < h.next.toNat) (R : Rep P φ h w) (hv : VarsR (keepOf P x.fn) φ vars tmps) (hn : ntOf P x.fn ≤ tmps.size) {c : Operand} {a b : Code} {y : Opd}
    (hx : ∀ v, opd y loc vars = some v → VR φ v (evT tmps c)) (ht : TodoR P (keepOf P x.fn) (ntOf P x.fn) φ k k') {c' : ACfg} (he : branch y (comp P (keepOf P x.fn) (ntOf P x.fn) a) (comp P (keepOf P x.fn) (ntOf P x.fn) b) x ads vars loc cs h k = some c') :
    Goal P φ cs0 h ⟨fn, tmps, .code (.cond c a b) :: k', ds, .run, kind, ro⟩ gs w c' := by
  obtain ⟨v, h1, h2⟩ := ob_inv (o := opd y loc vars) he
  obtain ⟨t, rfl, h3⟩ := onBool_inv (v := v) h2
  cases h3
  have hb := hx _ h1
  generalize hc : evT tmps c = u at hb
  cases hb
  refine ⟨_, gs, w, φ, .one (s_cond hc), ?_, Grows.refl _ φ h w⟩
  cases t with
  | true => exact mkCfg R T (.plain _ _ _ _ _ hv hn (.code a k k' ht)) Held.nil St hD
  | false => exact mkCfg R T (.plain _ _ _ _ _ hv hn (.code b k k' ht)) Held.nil St hD

theorem s_rangeFunc {f : Operand} {ps : Array Tmp} {a b : Code} {l : Nat} {mark : List Deferred} {w1 : World} (hl : (Instr.enterLoop fn tmps ps a b ro).run P w = .ok (l, mark) w1) :
    (∀ g zs, (do let d ← Deferred.ofValue (evT tmps f) #[.func (.yield l) #[] #[]]; invoke d.target d.args).run P w1 = .ok (.enter g zs) w1 →
      Go.step P (lone ⟨fn, tmps, .code (.rangeFunc f ps a b) :: k', ds, .run, kind, ro⟩ gs w) = .next (lone (Frame.enter P g zs .normal) (⟨fn, tmps, .inRangeFunc l :: k', mark ++ ds, .run, kind, ro⟩ :: gs) w1)) ∧
    (∀ l2 g tm c d, (do let d ← Deferred.ofValue (evT tmps f) #[.func (.yield l) #[] #[]]; invoke d.target d.args).run P w1 = .ok (.round l2 g tm c d) w1 →
      Go.step P (lone ⟨fn, tmps, .code (.rangeFunc f ps a b) :: k', ds, .run, kind, ro⟩ gs w) = .next (lone (Frame.round l2 g tm c d .normal) (⟨fn, tmps, .inRangeFunc l :: k', mark ++ ds, .run, kind, ro⟩ :: gs) w1)) := by
  constructor
  · intro g zs hr
    refine step_lone_go ?_
    have hr' : (do let d ← resolve (evT tmps) { callee := .value f, args := #[.const (.func (.yield l) #[] #[])], argTypes := #[] } 0; invoke d.target d.args).run P w1 = .ok (.enter g zs) w1 := by
      simp only [resolve, List.map_toArray, List.map_cons, List.map_nil, evT]
      exact hr
    simp [stepG, stepG.exec, hl, frame_eval, stepG.apply, hr']
  · intro l2 g tm c d hr
    refine step_lone_go ?_
    have hr' : (do let d ← resolve (evT tmps) { callee := .value f, args := #[.const (.func (.yield l) #[] #[])], argTypes := #[] } 0; invoke d.target d.args).run P w1 = .ok (.round l2 g tm c d) w1 := by
      simp only [resolve, List.map_toArray, List.map_cons, List.map_nil, evT]
      exact hr
    simp [stepG, stepG.exec, hl, frame_eval, stepG.apply, hr']

theorem new_mk (t : T AObj) (n : Pos) (o : AObj) : new ⟨t, n⟩ o = ⟨t.set o n, n.succ⟩ := fP_eq n.succ (fun q => (⟨t.set o n, q⟩ : AHeap))

/-- a loop over a function begins -/
theorem rfun_rel (HF : FOk P F) (HX : XOk P X cs0) (T : TopR P φ x ads fn kind ro ds) (St : StkR P φ h cs0 D cs gs) (hD : ∀ b, D b → b.toNat < h.next.toNat) (R : Rep P φ h w) (Fr : From cs0 φ h w) (hv : VarsR (keepOf P x.fn) φ vars tmps) (hn : ntOf P x.fn ≤ tmps.size) {f : Operand} {ps : Array Tmp} {a b : Code} {y : Opd}
    (hf : copd [] f = some y) (hps : ∀ t ∈ ps.toList, keepOf P x.fn t = true ∧ t < ntOf P x.fn) (ht : TodoR P (keepOf P x.fn) (ntOf P x.fn) φ k k') {c' : ACfg}
    (he : rfun F X y (pst ps.toList) (comp P (keepOf P x.fn) (ntOf P x.fn) a) (comp P (keepOf P x.fn) (ntOf P x.fn) b) x ads vars cs h k = some c') :
    Goal P φ cs0 h ⟨fn, tmps, .code (.rangeFunc f ps a b) :: k', ds, .run, kind, ro⟩ gs w c' := by
  obtain ⟨fv, h1, h2⟩ := ob_inv (o := opd y [] vars) he
  have hfv := opd_out hv hf h1
  obtain ⟨xf, kd, rd⟩ := x
  have hfn : fn = xf := T.fn
  subst hfn
  obtain ⟨t, n⟩ := h
  cases rd with
  | none =>
    have hro : ro = none := by
      have := T.round
      cases ro with
      | none => rfl
      | some l => exact this.elim
    subst hro
    have h2 : (fP n.succ fun n2 => fP n2.succ fun n3 =>
        callV F X fv ⟨⟨fn, kd, none⟩, ⟨.coll n, []⟩ :: ads, .run, vars, [], .inRF n2 :: k⟩ cs ⟨(t.set (.defd (some [])) n).set (.loop ⟨.ready, none, fn, vars, pst ps.toList, comp P (keepOf P fn) (ntOf P fn) a, comp P (keepOf P fn) (ntOf P fn) b, n⟩) n2, n3⟩ [.yld n2]) = some c' := h2
    rw [fP_eq, fP_eq] at h2
    obtain ⟨R1, G1, e1⟩ := R.make (w' := { w with heap := w.heap.push (.deferred (some [])) }) (csz := 0) D (o := .defd (some [])) (x := .deferred (some [])) rfl rfl (.defd [] _ [] .nil) rfl rfl rfl rfl
    rw [new_mk] at R1 G1
    generalize hφ1 : φ.put n ⟨w.heap.size, 0, 0⟩ = φ1 at R1 G1 e1
    have e1 : φ1 n = some ⟨w.heap.size, 0, 0⟩ := e1
    let lp : Loop := { state := .ready, pending := none, fn := fn, tmps := tmps, params := ps, assign := a, body := b, defers := w.heap.size }
    have hlt : (w.heap.push (.deferred (some []))).size = w.heap.size + 1 := by simp
    have hφ2none : φ1 n.succ = none := (rep_fresh R1 (q := n.succ) (Nat.le_refl _)).2
    have hle2 : φ1.le (φ1.put n.succ ⟨w.heap.size + 1, 0, 0⟩) := φ1.le_put _ _ hφ2none
    obtain ⟨R2, G2, e2⟩ := R1.make (w' := { w with heap := (w.heap.push (.deferred (some []))).push (.loop lp) }) (csz := 0) D (o := .loop ⟨.ready, none, fn, vars, pst ps.toList, comp P (keepOf P fn) (ntOf P fn) a, comp P (keepOf P fn) (ntOf P fn) b, n⟩) (x := .loop lp) rfl rfl (by
      rw [show ({ w with heap := w.heap.push (.deferred (some [])) } : World).heap.size = w.heap.size + 1 from hlt]
      exact .loop _ _ lp ⟨rfl, trivial, rfl, (hv.mono G1.le).mono hle2, hn, rfl, hps, rfl, rfl, ⟨_, hle2 _ _ e1, rfl⟩, T.known⟩) rfl rfl rfl rfl
    rw [new_mk] at R2 G2
    rw [show ({ w with heap := w.heap.push (.deferred (some [])) } : World).heap.size = w.heap.size + 1 from hlt] at R2 G2 e2
    generalize hφ2 : φ1.put n.succ ⟨w.heap.size + 1, 0, 0⟩ = φ2 at R2 G2 e2 hle2
    have e2 : φ2 n.succ = some ⟨w.heap.size + 1, 0, 0⟩ := e2
    have G := G1.trans G2
    have hloop : (Instr.enterLoop fn tmps ps a b none).run P w = .ok (w.heap.size + 1, [⟨.collected w.heap.size, #[]⟩]) { w with heap := (w.heap.push (.deferred (some []))).push (.loop lp) } := by
      simp [Instr.enterLoop, run_newObj, lp]
      rfl
    obtain ⟨s1, s2⟩ := s_rangeFunc (P := P) (f := f) (k' := k') (ds := ds) (kind := kind) (gs := gs) hloop
    have hsus : FrR P φ2 ⟨(t.set (.defd (some [])) n).set (.loop ⟨.ready, none, fn, vars, pst ps.toList, comp P (keepOf P fn) (ntOf P fn) a, comp P (keepOf P fn) (ntOf P fn) b, n⟩) n.succ, n.succ.succ⟩ true []
        ⟨⟨fn, kd, none⟩, ⟨.coll n, []⟩ :: ads, .run, vars, [], .inRF n.succ :: k⟩ ⟨fn, tmps, .inRangeFunc (w.heap.size + 1) :: k', [⟨.collected w.heap.size, #[]⟩] ++ ds, .run, kind, none⟩ :=
      ⟨rfl, T.kind, trivial, .cons _ _ _ _ (.coll n ⟨w.heap.size, 0, 0⟩ (hle2 _ _ e1)) (T.defers.mono G.le), T.known, rfl, .plain _ _ _ _ _ (hv.mono G.le) hn (.inRF n.succ ⟨w.heap.size + 1, 0, 0⟩ k k' e2 (ht.mono G.le))⟩
    have hD2 : ∀ b, D b → b.toNat < n.succ.succ.toNat := fun b hb => by
      have := hD b hb
      have h3 := Pos.toNat_succ n
      have h4 := Pos.toNat_succ n.succ
      have h5 : b.toNat < n.toNat := this
      omega
    obtain ⟨g', gs', w', φ', q1, q2, q3⟩ := callV_rel (m := lone ⟨fn, tmps, .code (.rangeFunc f ps a b) :: k', ds, .run, kind, none⟩ gs w) HF HX hsus Held.nil (St.mono G) hD2 R2 (Fr.next G) (hfv.mono G.le) (ys := #[.func (.yield (w.heap.size + 1)) #[] #[]]) (.cons _ _ _ _ (.yld n.succ ⟨w.heap.size + 1, 0, 0⟩ e2) .nil) (fun g zs hr => .one (s1 g zs hr)) (fun l2 g tm c d hr => .one (s2 l2 g tm c d hr)) h2
    exact ⟨g', gs', w', φ', q1, q2, (G.of St).trans q3⟩
  | some lb =>
    cases ro with
    | none => exact T.round.elim
    | some l0 =>
      obtain ⟨L0, hL0, rfl⟩ := T.round
      have h2 : (ob (hget ⟨t, n⟩ lb) fun o => onLoop o (fun l => fP n.succ fun n2 =>
        callV F X fv ⟨⟨fn, kd, some lb⟩, ads, .run, vars, [], .inRF n :: k⟩ cs ⟨t.set (.loop ⟨.ready, none, fn, vars, pst ps.toList, comp P (keepOf P fn) (ntOf P fn) a, comp P (keepOf P fn) (ntOf P fn) b, l.defers⟩) n, n2⟩ [.yld n]) none) = some c' := h2
      obtain ⟨o, h3, h4⟩ := ob_inv h2
      obtain ⟨l, rfl, h5⟩ := onLoop_inv (v := o) h4
      rw [fP_eq] at h5
      obtain ⟨r0, g1, LR⟩ := R.loop h3 hL0
      obtain ⟨Ld, hLd, hLd2⟩ := LR.defers
      let lp : Loop := { state := .ready, pending := none, fn := fn, tmps := tmps, params := ps, assign := a, body := b, defers := r0.defers }
      have hφ2none : φ n = none := (rep_fresh R (q := n) (Nat.le_refl _)).2
      have hle2 : φ.le (φ.put n ⟨w.heap.size, 0, 0⟩) := φ.le_put _ _ hφ2none
      obtain ⟨R2, G, e2⟩ := R.make (w' := { w with heap := w.heap.push (.loop lp) }) (csz := 0) D (o := .loop ⟨.ready, none, fn, vars, pst ps.toList, comp P (keepOf P fn) (ntOf P fn) a, comp P (keepOf P fn) (ntOf P fn) b, l.defers⟩) (x := .loop lp) rfl rfl
        (.loop _ _ lp ⟨rfl, trivial, rfl, hv.mono hle2, hn, rfl, hps, rfl, rfl, ⟨Ld, hle2 _ _ hLd, hLd2⟩, T.known⟩) rfl rfl rfl rfl
      rw [new_mk] at R2 G
      generalize hφ2 : φ.put n ⟨w.heap.size, 0, 0⟩ = φ2 at R2 G e2 hle2
      have e2 : φ2 n = some ⟨w.heap.size, 0, 0⟩ := e2
      have hloop : (Instr.enterLoop fn tmps ps a b (some L0.blk)).run P w = .ok (w.heap.size, []) { w with heap := w.heap.push (.loop lp) } := by
        simp [Instr.enterLoop, run_getLoop g1, run_newObj, lp]
      obtain ⟨s1, s2⟩ := s_rangeFunc (P := P) (f := f) (k' := k') (ds := ds) (kind := kind) (gs := gs) hloop
      have hsus : FrR P φ2 ⟨t.set (.loop ⟨.ready, none, fn, vars, pst ps.toList, comp P (keepOf P fn) (ntOf P fn) a, comp P (keepOf P fn) (ntOf P fn) b, l.defers⟩) n, n.succ⟩ true []
          ⟨⟨fn, kd, some lb⟩, ads, .run, vars, [], .inRF n :: k⟩ ⟨fn, tmps, .inRangeFunc w.heap.size :: k', [] ++ ds, .run, kind, some L0.blk⟩ :=
        ⟨rfl, T.kind, ⟨L0, hle2 _ _ hL0, rfl⟩, T.defers.mono G.le, T.known, rfl, .plain _ _ _ _ _ (hv.mono G.le) hn (.inRF n ⟨w.heap.size, 0, 0⟩ k k' e2 (ht.mono G.le))⟩
      have hD2 : ∀ b, D b → b.toNat < n.succ.toNat := fun b hb => by
        have := hD b hb
        have h3 := Pos.toNat_succ n
        have h5 : b.toNat < n.toNat := this
        omega
      obtain ⟨g', gs', w', φ', q1, q2, q3⟩ := callV_rel (m := lone ⟨fn, tmps, .code (.rangeFunc f ps a b) :: k', ds, .run, kind, some L0.blk⟩ gs w) HF HX hsus Held.nil (St.mono G) hD2 R2 (Fr.next G) (hfv.mono G.le) (ys := #[.func (.yield w.heap.size) #[] #[]]) (.cons _ _ _ _ (.yld n ⟨w.heap.size, 0, 0⟩ e2) .nil) (fun g zs hr => .one (s1 g zs hr)) (fun l2 g tm c d hr => .one (s2 l2 g tm c d hr)) h5
      exact ⟨g', gs', w', φ', q1, q2, (G.of St).trans q3⟩
end

end Go.Ev
/-
  A small machine over closed data, fifty-five: each step, joined; and a whole run.
-/
namespace Go.Ev

section
variable {P : Program} {φ φ' : Map} {h h' : AHeap} {w w' : World} {cs0 : Bot} {D : Pos → Prop} {x : AFix} {ads : List ADef} {fn : FuncId} {kind : CallKind} {ro : Option Nat} {ds : List Deferred}
variable {vars : T AV} {loc : List AV} {tmps : Array Value} {pd : List (Nat × Pos)} {todo : List AItem} {todo' : List Item} {k : List AItem} {k' : List Item} {cs : List AFrame} {gs : List Frame}
variable {F : FuncId → Option AFunc} {X : FuncId → Option Ext}

theorem leave_goal (T : TopR P φ x ads fn kind ro ds) (St : StkR P φ h cs0 D cs gs) (hD : ∀ b, D b → b.toNat < h.next.toNat) (R : Rep P φ h w) (hv : VarsR (keepOf P x.fn) φ vars tmps) {c' : ACfg} :
    (leave x ads vars cs h none = some c' → Goal P φ cs0 h ⟨fn, tmps, [], ds, .run, kind, ro⟩ gs w c') ∧
    (∀ kk, leave x ads vars cs h (some .ret) = some c' → Goal P φ cs0 h ⟨fn, tmps, .code .ret :: kk, ds, .run, kind, ro⟩ gs w c') ∧
    (∀ id kk, exitTo id kk = none → leave x ads vars cs h (some (.exit id)) = some c' → Goal P φ cs0 h ⟨fn, tmps, .code (.exit id) :: kk, ds, .run, kind, ro⟩ gs w c') := by
  refine ⟨fun he => ?_, fun kk he => ?_, fun id kk hx he => ?_⟩
  · refine leave_rel T St hD R hv he (fun _ hr => ?_) (fun l u w' g gs' hr hg hrun hk => ?_)
    · subst hr; exact ⟨_, s_end⟩
    · subst hr; subst hg; exact s_round_end hrun hk
  · refine leave_rel T St hD R hv he (fun _ hr => ?_) (fun l u w' g gs' hr hg hrun hk => ?_)
    · subst hr; exact ⟨_, s_ret⟩
    · subst hr; subst hg; exact s_round_ret hrun hk
  · refine leave_rel T St hD R hv he (fun hj _ => ?_) (fun l u w' g gs' hr hg hrun hk => ?_)
    · rcases hj with hj | hj <;> cases hj
    · subst hr; subst hg; exact s_round_exit hx hrun hk

/-- the steps of plain code -/
theorem sim_code (hmix : P.follows .mixedOrders = true) (HF : FOk P F) (HX : XOk P X cs0) (T : TopR P φ x ads fn kind ro ds) (St : StkR P φ h cs0 D cs gs) (hD : ∀ b, D b → b.toNat < h.next.toNat) (R : Rep P φ h w) (Fr : From cs0 φ h w) (hv : VarsR (keepOf P x.fn) φ vars tmps) (hn : ntOf P x.fn ≤ tmps.size)
    {c : Code} (ht : TodoR P (keepOf P x.fn) (ntOf P x.fn) φ k k') {c' : ACfg} (he : Ev.code F X (comp P (keepOf P x.fn) (ntOf P x.fn) c) x ads vars cs h k = some c') : Goal P φ cs0 h ⟨fn, tmps, .code c :: k', ds, .run, kind, ro⟩ gs w c' := by
  have one : ∀ {todo2 : List AItem} {todo2' : List Item}, TodoR P (keepOf P x.fn) (ntOf P x.fn) φ todo2 todo2' → Go.step P (lone ⟨fn, tmps, .code c :: k', ds, .run, kind, ro⟩ gs w) = .next (lone ⟨fn, tmps, todo2', ds, .run, kind, ro⟩ gs w) →
      some (⟨⟨x, ads, .run, vars, [], todo2⟩, cs, h⟩ : ACfg) = some c' → Goal P φ cs0 h ⟨fn, tmps, .code c :: k', ds, .run, kind, ro⟩ gs w c' := by
    intro todo2 todo2' h1 h2 h3
    cases h3
    exact ⟨_, gs, w, φ, .one h2, mkCfg R T (.plain _ _ _ _ _ hv hn h1) Held.nil St hD, Grows.refl _ φ h w⟩
  obtain ⟨l1, l2, l3⟩ := leave_goal (c' := c') T St hD R hv
  cases c with
  | skip => exact one ht s_skip he
  | label l => exact one ht s_label he
  | block id a => exact one (.code a _ _ (.inBlock id _ _ ht)) s_block he
  | loop a => exact one (.code a _ _ (.inLoop a _ _ ht)) s_loop he
  | seq a b =>
    rcases comp_seq (P := P) (K := keepOf P x.fn) (N := ntOf P x.fn) a b with h1 | ⟨id, ops, d, y, t, e, rfl, rfl, h1⟩
    · rw [h1] at he
      exact one (.code a _ _ (.code b _ _ ht)) s_seq he
    · rw [h1] at he
      split at he
      · rename_i is env dirty hc
        split at he
        · rename_i y' hy
          cases (show some (⟨⟨x, ads, .run, vars, [], .run is dirty :: .cnd y' (comp P (keepOf P x.fn) (ntOf P x.fn) t) (comp P (keepOf P x.fn) (ntOf P x.fn) e) :: k⟩, cs, h⟩ : ACfg) = some c' from he)
          obtain ⟨l, w', hl, ⟨e1, e2, e3, e4⟩, hs⟩ := s_region (P := P) (fn := fn) (tmps := tmps) (ds := ds) (kind := kind) (ro := ro) (k := .code (.cond y t e) :: k') (cs := gs) (w := w) (id := id) (ops := ops) (draw := d)
          have G : Grows D φ φ h h w w' := ⟨φ.le_refl, by rw [e1]; exact Nat.le_refl _, e2, e3, e4, fun β _ _ => by rw [e1], fun b L h1 h2 => (by rw [h1] at h2; cases h2), fun b o _ h1 _ _ h3 => ⟨h3, h1⟩, Nat.le_refl _⟩
          exact ⟨_, gs, w', φ, .head s_seq (.one hs), region_rel hmix T St hD (R.world e1) hv hn hc (.cnd y' y t e k k' hy ht) hl, G.of St⟩
        · cases he
      · cases he
  | cond y a b =>
    have he : Ev.code F X (match copd [] y with | some y => .cond y (comp P (keepOf P x.fn) (ntOf P x.fn) a) (comp P (keepOf P x.fn) (ntOf P x.fn) b) | none => .bad) x ads vars cs h k = some c' := he
    cases hy : copd [] y with
    | none => rw [hy] at he; cases he
    | some y' =>
      rw [hy] at he
      exact branch_rel (loc := []) T St hD R hv hn (fun v hv' => opd_out hv hy hv') ht he
  | exit id =>
    obtain ⟨x1, x2⟩ := exit_rel (id := id) ht
    have he : orE (exitA id k) (leave x ads vars cs h (some (.exit id))) (fun k => some (⟨⟨x, ads, .run, vars, [], k⟩, cs, h⟩ : ACfg)) = some c' := he
    cases hx : exitA id k with
    | none => rw [hx] at he; exact l3 id k' (x2 hx) he
    | some k1 =>
      rw [hx] at he
      obtain ⟨k1', h1, h2⟩ := x1 k1 hx
      exact one h2 (s_exit h1) he
  | ret => exact l2 k' he
  | region id ops d =>
    have he : Ev.code F X (match creg P (keepOf P x.fn) (ntOf P x.fn) ops d with | some (is, _, dirty) => .region is dirty | none => .bad) x ads vars cs h k = some c' := he
    cases hc : creg P (keepOf P x.fn) (ntOf P x.fn) ops d with
    | none => rw [hc] at he; cases he
    | some r =>
      obtain ⟨is, env, dirty⟩ := r
      rw [hc] at he
      cases (show some (⟨⟨x, ads, .run, vars, [], .run is dirty :: k⟩, cs, h⟩ : ACfg) = some c' from he)
      obtain ⟨l, w', hl, ⟨e1, e2, e3, e4⟩, hs⟩ := s_region (P := P) (fn := fn) (tmps := tmps) (ds := ds) (kind := kind) (ro := ro) (k := k') (cs := gs) (w := w) (id := id) (ops := ops) (draw := d)
      have G : Grows D φ φ h h w w' := ⟨φ.le_refl, by rw [e1]; exact Nat.le_refl _, e2, e3, e4, fun β _ _ => by rw [e1], fun b L h1 h2 => (by rw [h1] at h2; cases h2), fun b o _ h1 _ _ h3 => ⟨h3, h1⟩, Nat.le_refl _⟩
      exact ⟨_, gs, w', φ, .one hs, region_rel hmix T St hD (R.world e1) hv hn hc (.plain k k' ht) hl, G.of St⟩
  | rangeFunc f ps a b =>
    have he : Ev.code F X (match copd [] f with | some f => bif allL (fun t => bif keepOf P x.fn t then Nat.ble (Nat.succ t) (ntOf P x.fn) else false) ps.toList then .rfun f (pst ps.toList) (comp P (keepOf P x.fn) (ntOf P x.fn) a) (comp P (keepOf P x.fn) (ntOf P x.fn) b) else .bad | none => .bad) x ads vars cs h k = some c' := he
    cases hf : copd [] f with
    | none => rw [hf] at he; cases he
    | some y =>
      rw [hf] at he
      dsimp only at he
      cases hp : allL (fun t => bif keepOf P x.fn t then Nat.ble (Nat.succ t) (ntOf P x.fn) else false) ps.toList with
      | false => rw [hp] at he; cases he
      | true =>
        rw [hp] at he
        have hps : ∀ t ∈ ps.toList, keepOf P x.fn t = true ∧ t < ntOf P x.fn := fun t ht => by
          obtain ⟨h1, h2⟩ := bif_true ((allL_iff _ _).mp hp t ht)
          exact ⟨h1, Nat.ble_eq.mp h2⟩
        exact rfun_rel HF HX T St hD R Fr hv hn hf hps ht he
  | _ => cases he

theorem run_beginRound {l : Nat} {r : Loop} (hl : w.heap[l]? = some (.loop r)) (hs : r.state = .ready) : (Instr.beginRound l).run P w = .ok () { w with heap := w.heap.setIfInBounds l (.loop { r with state := .busy }) } := by
  simp only [Instr.beginRound, Sem.run_bind, run_getLoop hl, Result.andThen_ok, run_setLoop hl, hs, Sem.run_pure]
theorem s_begin {l : Nat} {kk : List Item} (hr : (Instr.beginRound l).run P w = .ok () w') : Go.step P (lone ⟨fn, tmps, .beginRound :: kk, ds, .run, kind, some l⟩ gs w) = .next (lone ⟨fn, tmps, kk, ds, .run, kind, some l⟩ gs w') :=
  step_lone_go (by simp [stepG, stepG.exec, stepG.apply, hr, Frame.finish])
theorem run_endLoop {l : Nat} {r : Loop} (hl : w.heap[l]? = some (.loop r)) (hs : r.state ≠ .busy) : (Instr.endLoop l).run P w = .ok r.pending { w with heap := w.heap.setIfInBounds l (.loop { r with state := .exhausted }) } := by
  simp [Instr.endLoop, run_getLoop hl, run_setLoop hl]
  exact fun h1 => absurd h1 hs
theorem s_endLoop {l : Nat} {kk : List Item} {jump : Option Code} (hr : (Instr.endLoop l).run P w = .ok jump w') : Go.step P (lone ⟨fn, tmps, .endRangeFunc l :: kk, ds, .run, kind, ro⟩ gs w) = .next (lone ⟨fn, tmps, (jump.map Item.code).toList ++ kk, ds, .run, kind, ro⟩ gs w') :=
  step_lone_go (by simp [stepG, stepG.exec, hr])

/-- the steps of a frame that runs -/
theorem sim_item (hmix : P.follows .mixedOrders = true) (HF : FOk P F) (HX : XOk P X cs0) (T : TopR P φ x ads fn kind ro ds) (St : StkR P φ h cs0 D cs gs) (hD : ∀ b, D b → b.toNat < h.next.toNat) (R : Rep P φ h w) (Fr : From cs0 φ h w) (hv : VarsR (keepOf P x.fn) φ vars tmps) (hn : ntOf P x.fn ≤ tmps.size)
    (ht : TodoR P (keepOf P x.fn) (ntOf P x.fn) φ todo todo') {c' : ACfg} (he : onCons todo (leave x ads vars cs h none) (fun i k => item P F X i x ads vars loc cs h k) = some c') : Goal P φ cs0 h ⟨fn, tmps, todo', ds, .run, kind, ro⟩ gs w c' := by
  cases ht with
  | nil => exact (leave_goal T St hD R hv).1 he
  | code c k k' ht => exact sim_code hmix HF HX T St hD R Fr hv hn ht he
  | inBlock id k k' ht =>
    cases (show some (⟨⟨x, ads, .run, vars, [], k⟩, cs, h⟩ : ACfg) = some c' from he)
    exact ⟨_, gs, w, φ, .one s_inBlock, mkCfg R T (.plain _ _ _ _ _ hv hn ht) Held.nil St hD, Grows.refl _ φ h w⟩
  | inLoop c k k' ht =>
    cases (show some (⟨⟨x, ads, .run, vars, [], .code (comp P (keepOf P x.fn) (ntOf P x.fn) c) :: .inLoop (comp P (keepOf P x.fn) (ntOf P x.fn) c) :: k⟩, cs, h⟩ : ACfg) = some c' from he)
    exact ⟨_, gs, w, φ, .one s_inLoop, mkCfg R T (.plain _ _ _ _ _ hv hn (.code c _ _ (.inLoop c _ _ ht))) Held.nil St hD, Grows.refl _ φ h w⟩
  | inRF b L k k' hb ht => cases he
  | endRF b L k k' hb ht =>
    have he : (ob (setLoop h b (loopAs .exhausted)) fun r => on2 r fun l h => match l with
      | ⟨s, p, _, _, _, _, _, _⟩ => match s with
        | .busy => none
        | _ => some (⟨⟨x, ads, .run, vars, [], jumpTo p k⟩, cs, h⟩ : ACfg)) = some c' := he
    obtain ⟨⟨l, h'⟩, h1, h2⟩ := ob_inv he
    obtain ⟨s, p, a3, a4, a5, a6, a7, a8⟩ := l
    obtain ⟨r, g1, g2, g3⟩ := setLoop_rel R (fun b => D b) hb h1
    have hst : r.state = s := g2.state
    have hLR : LoopR P φ (loopAs .exhausted ⟨s, p, a3, a4, a5, a6, a7, a8⟩) { r with state := .exhausted } := ⟨rfl, g2.pending, g2.fn, g2.vars, g2.room, g2.params, g2.kept, g2.assign, g2.body, g2.defers, g2.known⟩
    obtain ⟨R', G⟩ := g3 _ hLR
    have hne : r.state ≠ .busy ∧ some (⟨⟨x, ads, .run, vars, [], jumpTo p k⟩, cs, h'⟩ : ACfg) = some c' := by
      rw [hst]
      cases s with
      | busy => cases h2
      | _ => exact ⟨by simp, h2⟩
    obtain ⟨hne, h3⟩ := hne
    cases h3
    have htd : TodoR P (keepOf P x.fn) (ntOf P x.fn) φ (jumpTo p k) ((r.pending.map Item.code).toList ++ k') := by
      have hp : JumpR p r.pending := g2.pending
      cases p with
      | none =>
        cases hpp : r.pending with
        | none => exact ht
        | some c => rw [hpp] at hp; exact hp.elim
      | some j =>
        cases hpp : r.pending with
        | none => rw [hpp] at hp; cases j <;> exact hp.elim
        | some c =>
          rw [hpp] at hp
          cases j with
          | ret => cases c <;> first | exact hp.elim | exact .code .ret _ _ ht
          | exit id => cases c <;> first | exact hp.elim | (cases (show id = _ from hp); exact .code (.exit id) _ _ ht)
    exact ⟨_, gs, _, φ, .one (s_endLoop (run_endLoop g1 hne)), mkCfg R' T (.plain _ _ _ _ _ hv hn htd) Held.nil (St.mono G) (fun b hb => Nat.lt_of_lt_of_le (hD b hb) G.next), G.of St⟩
  | begin k k' ht =>
    obtain ⟨xf, kd, rd⟩ := x
    cases rd with
    | none => cases he
    | some b =>
      cases ro with
      | none => exact T.round.elim
      | some l0 =>
        obtain ⟨L, hL, rfl⟩ := T.round
        have he : (ob (setLoop h b (loopAs .busy)) fun r => on2 r fun l h => match l with
          | ⟨s, _, _, _, _, _, _, _⟩ => match s with
            | .ready => some (⟨⟨⟨xf, kd, some b⟩, ads, .run, vars, [], k⟩, cs, h⟩ : ACfg)
            | _ => none) = some c' := he
        obtain ⟨⟨l, h'⟩, h1, h2⟩ := ob_inv he
        obtain ⟨s, p, a3, a4, a5, a6, a7, a8⟩ := l
        obtain ⟨r, g1, g2, g3⟩ := setLoop_rel R (fun b => D b) hL h1
        have hst : r.state = s := g2.state
        have hLR : LoopR P φ (loopAs .busy ⟨s, p, a3, a4, a5, a6, a7, a8⟩) { r with state := .busy } := ⟨rfl, g2.pending, g2.fn, g2.vars, g2.room, g2.params, g2.kept, g2.assign, g2.body, g2.defers, g2.known⟩
        obtain ⟨R', G⟩ := g3 _ hLR
        cases s with
        | ready =>
          cases (show some (⟨⟨⟨xf, kd, some b⟩, ads, .run, vars, [], k⟩, cs, h'⟩ : ACfg) = some c' from h2)
          exact ⟨_, gs, _, φ, .one (s_begin (run_beginRound g1 hst)), mkCfg R' T (.plain _ _ _ _ _ hv hn ht) Held.nil (St.mono G) (fun b hb => Nat.lt_of_lt_of_le (hD b hb) G.next), G.of St⟩
        | _ => cases h2
end

section
variable {P : Program} {φ : Map} {w : World} {cs0 : Bot} {F : FuncId → Option AFunc} {X : FuncId → Option Ext}

/-- a step -/
theorem sim_step (hmix : P.follows .mixedOrders = true) (HF : FOk P F) (HX : XOk P X cs0) {c c' : ACfg} {g : Frame} {gs : List Frame} (C : CfgR P φ cs0 c g gs w) (Fr : From cs0 φ c.h w) (he : step P F X c = some c') : Goal P φ cs0 c.h g gs w c' := by
  obtain ⟨⟨x, ads, m, vars, loc, todo⟩, cs, h⟩ := c
  obtain ⟨R, pd, D, H, HD, St, hD⟩ := C
  cases m with
  | run =>
    obtain ⟨fn, tmps, todo', ds, mode, kind, ro⟩ := g
    obtain ⟨hm, B⟩ := H.body
    have hm : mode = .run := hm
    subst hm
    have T : TopR P φ x ads fn kind ro ds := ⟨H.fn, H.kind, H.round, H.defers, H.known⟩
    have B : BodyR P (keepOf P x.fn) (ntOf P x.fn) φ h false vars loc todo tmps todo' pd := B
    have he : onCons todo (leave x ads vars cs h none) (fun i k => item P F X i x ads vars loc cs h k) = some c' := he
    clear H
    cases B with
    | plain _ _ _ _ _ hv hn ht => exact sim_item hmix HF HX T St hD R Fr hv hn ht he
    | cnd _ _ y c a b k _ k' hv hn hx ht => exact branch_rel T St hD R hv hn hx ht he
    | reg ops bef h₀ pre left ks is rest vals _ _ _ dirty k k' S U hd ht hh hp hs =>
      have := hh rfl
      subst this
      exact sim_run HF HX T HD St hD R Fr S U hd ht he
  | returning => exact sim_unwind HF (by simp) H St hD R he
  | panicking ch => exact sim_unwind HF (by simp) H St hD R he

/-- so many steps -/
noncomputable def steps (P : Program) (F : FuncId → Option AFunc) (X : FuncId → Option Ext) : Nat → ACfg → Option ACfg
  | 0, c => some c
  | n + 1, c => match step P F X c with
    | some c => steps P F X n c
    | none => none
theorem sim_steps (hmix : P.follows .mixedOrders = true) (HF : FOk P F) (HX : XOk P X cs0) : ∀ (n : Nat) (c c' : ACfg) (φ : Map) (g : Frame) (gs : List Frame) (w : World), CfgR P φ cs0 c g gs w → From cs0 φ c.h w → steps P F X n c = some c' → Goal P φ cs0 c.h g gs w c' := by
  intro n
  induction n with
  | zero =>
    intro c c' φ g gs w C Fr he
    cases he
    exact ⟨g, gs, w, φ, .refl P _, C, Grows.refl _ φ c.h w⟩
  | succ n ih =>
    intro c c' φ g gs w C Fr he
    unfold steps at he
    split at he
    · rename_i c1 h1
      obtain ⟨g1, gs1, w1, φ1, k1, k2, k3⟩ := sim_step hmix HF HX C Fr h1
      obtain ⟨g2, gs2, w2, φ2, q1, q2, q3⟩ := ih c1 c' φ1 g1 gs1 w1 k2 (Fr.next k3) he
      exact ⟨g2, gs2, w2, φ2, k1.trans q1, q2, k3.trans q3⟩
    · cases he

/-- the end of a run -/
theorem done_rel (HF : FOk P F) {c : ACfg} {g : Frame} {gs : List Frame} {v : AV} (C : CfgR P φ cs0 c g gs w) (hd : done F c = some v) (hk : c.fr.x.kind = .normal) : gs = cs0.frames ∧ ∃ u, g.fn = c.fr.x.fn ∧ g.leaving P w (.returned u) ∧ VR φ v u := by
  obtain ⟨⟨x, ads, m, vars, loc, todo⟩, cs, h⟩ := c
  obtain ⟨R, pd, D, H, HD, St, hD⟩ := C
  cases m with
  | run => cases ads <;> cases cs <;> cases hd
  | panicking ch => cases ads <;> cases cs <;> cases hd
  | returning =>
    cases ads with
    | cons d ads => cases cs <;> cases hd
    | nil =>
      cases cs with
      | cons c cs => cases hd
      | nil =>
        obtain ⟨hm, hv, _⟩ := H.body
        obtain ⟨fn', u, k1, k2, k3⟩ := results_rel HF R hv hd
        have hds := H.defers
        have hds : g.defers = [] := by
          generalize g.defers = gd at hds
          cases hds; rfl
        refine ⟨St.1, u, H.fn, ⟨hm, hds, by rw [H.kind]; exact hk, fn', by rw [H.fn]; exact k1, k2⟩, k3⟩

/-- a call, from a run of the machine -/
theorem calls_of_run (hmix : P.follows .mixedOrders = true) (HF : FOk P F) {f : FuncId} {fr : AFrame} {n : Nat} {c : ACfg} {v : AV} {D : Pos → Prop} {h : AHeap} {xs : List AV} {ys : Array Value} {φ0 : Map} {h0 : AHeap} {w0 : World} (HX : ∀ cs, XOk P X ⟨cs, D, φ0, h0, w0⟩)
    (he : enter F f xs .normal = some fr) (hr : steps P F X n ⟨fr, [], h⟩ = some c) (hd : done F c = some v) (hx : c.fr.x = ⟨f, .normal, none⟩)
    (R : Rep P φ h w) (hxs : VRs φ xs ys.toList) (hD : ∀ b, D b → b.toNat < h.next.toNat) (Fr : Grows (fun _ => False) φ0 φ h0 h w0 w) :
    Calls P f ys w fun r w' => ∃ u φ', r = .returned u ∧ VR φ' v u ∧ Rep P φ' c.h w' ∧ Grows D φ φ' h c.h w w' := by
  intro cs
  obtain ⟨hfr, _⟩ := enter_rel (P := P) (φ := φ) (h := h) (ys := ys) HF he hxs
  have C : CfgR P φ ⟨cs, D, φ0, h0, w0⟩ ⟨fr, [], h⟩ (Frame.enter P f ys .normal) cs w := ⟨R, [], D, hfr, Held.nil, ⟨rfl, fun b hb => hb⟩, hD⟩
  obtain ⟨g, gs, w', φ', k1, k2, k3⟩ := sim_steps hmix HF (HX cs) n _ c _ _ cs w C Fr hr
  obtain ⟨h1, u, h2, h3, h4⟩ := done_rel HF k2 hd (by rw [hx])
  have h1 : gs = cs := h1
  subst h1
  exact ⟨.returned u, w', g, ⟨u, φ', rfl, h4, k2.rep, k3⟩, k1, by rw [h2, hx], h3⟩
theorem rep_none (w : World) : Rep P (fun _ => none) ⟨.leaf, .H⟩ w := ⟨fun b o h => (by cases h), fun b L h => (by cases h), fun b o L h => (by cases h), fun b o h => (by cases h), fun b c x y L M h => (by cases h), fun g l b h => (by cases h), fun b x g h => (by cases h)⟩
end

end Go.Ev
/-
  A small machine over closed data, fifty-six: calls that were run before: what was read must be as it was then.
-/
namespace Go.Ev

noncomputable def eqO (a b : Option AV) : Bool := match a with
  | none => (match b with | none => true | some _ => false)
  | some x => (match b with | none => false | some y => same 20 x y)
noncomputable def eqT : T AV → T AV → Bool
  | .leaf, u => (match u with | .leaf => true | .node _ _ _ => false)
  | .node l v r, u => (match u with | .leaf => false | .node l' v' r' => bi (eqO v v') (bi (eqT l l') (eqT r r') false) false)
noncomputable def eqE : List (AV × AV) → List (AV × AV) → Bool
  | [], l => (match l with | [] => true | _ :: _ => false)
  | (a, b) :: k, l => (match l with | [] => false | (c, d) :: l => bi (same 20 a c) (bi (same 20 b d) (eqE k l) false) false)
/-- whether two objects of no group are the same -/
noncomputable def eqObj (o x : AObj) : Bool := match o with
  | .small e l => (match x with | .small e' l' => bi (Nat.beq e e') (all2 (same 20) l l') false | _ => false)
  | .big e fz n z t g => (match x with | .big e' fz' n' z' t' g' => bi (Nat.beq e e') (bi (Nat.beq fz fz') (bi (Nat.beq n n') (bi (all2 (same 20) z z') (bi (eqT t t') (match g with | none => (match g' with | none => true | some _ => false) | some _ => false) false) false) false) false) false | _ => false)
  | .map es => (match x with | .map es' => eqE es es' | _ => false)
  | _ => false
/-- whether a value leads to no other blocks than some -/
noncomputable def inL (b : Pos) : List Pos → Bool
  | [] => false
  | p :: l => bi (peq b p) true (inL b l)
noncomputable def closedV (d : Nat) (ks : List Pos) (v : AV) : Bool := match d with
  | 0 => false
  | d + 1 => match v with
    | .ptr b _ => inL b ks
    | .sl b _ _ _ => inL b ks
    | .map b => inL b ks
    | .yld _ => false
    | .func _ x y => bi (allL (closedV d ks) x) (allL (closedV d ks) y) false
    | .iface _ x => closedV d ks x
    | .agg l => allL (closedV d ks) l
    | .tup l => allL (closedV d ks) l
    | _ => true
noncomputable def allT (f : AV → Bool) : T AV → Bool
  | .leaf => true
  | .node l v r => bi (match v with | none => true | some v => f v) (bi (allT f l) (allT f r) false) false
noncomputable def closedO (ks : List Pos) (o : AObj) : Bool := match o with
  | .small _ l => allL (closedV 20 ks) l
  | .big _ _ _ z t _ => bi (allL (closedV 20 ks) z) (allT (closedV 20 ks) t) false
  | .map es => allL (fun p => bi (closedV 20 ks p.1) (closedV 20 ks p.2) false) es
  | _ => false

structure Memo where
  f : FuncId
  xs : List AV
  next : Pos
  ks : List (Pos × AObj)
  n : Nat
  v : AV
  next' : Pos
  ks' : List (Pos × AObj)
  nl : List (Pos × AObj)

noncomputable def keys (l : List (Pos × AObj)) : List Pos := mapT (fun p => p.1) l
noncomputable def setL (t : T AObj) : List (Pos × AObj) → T AObj
  | [] => t
  | (b, o) :: l => setL (t.set o b) l
noncomputable def hitL (t : T AObj) : List (Pos × AObj) → Bool
  | [] => true
  | (b, o) :: l => orE (t.get b) false fun x => bi (eqObj o x) (hitL t l) false
noncomputable def none? (l : List (Pos × AObj)) : Bool := match l with | [] => true | _ :: _ => false
/-- where nothing new is made, the next key is all one -/
noncomputable def hit (m : Memo) (xs : List AV) (h : AHeap) : Bool := bi (bi (none? m.nl) true (peq m.next (nextOf h))) (bi (all2 (same 20) m.xs xs) (onHeap h fun t _ => hitL t m.ks) false) false
noncomputable def out (m : Memo) (h : AHeap) : AHeap := onHeap h fun t nx => ⟨setL (setL t m.ks') m.nl, bi (none? m.nl) nx m.next'⟩
noncomputable def grpL (t : T AObj) : List (Pos × AObj) → List Pos
  | [] => []
  | (b, _) :: l => match t.get b with
    | some (.big _ _ _ _ _ (some g)) => g :: grpL t l
    | _ => grpL t l
noncomputable def soloL (t : T AObj) : List (Pos × AObj) → Bool
  | [] => true
  | (b, o) :: l => orE (t.get b) false fun x => bi (eqObj o (solo x)) (soloL t l) false
noncomputable def nodupP : List Pos → Bool
  | [] => true
  | p :: l => bi (inL p l) false (nodupP l)
noncomputable def allIn (ks : List Pos) (l : List Pos) : Bool := allL (fun b => inL b ks) l
noncomputable def isTop (f : FuncId) (x : AFix) : Bool := match x with
  | ⟨g, kind, round⟩ => match kind with
    | .normal => (match round with | none => Nat.beq g f | some _ => false)
    | _ => false
noncomputable def fixOf (c : ACfg) : AFix := match c with
  | ⟨⟨x, _, _, _, _, _⟩, _, _⟩ => x
noncomputable def heapOf (c : ACfg) : AHeap := match c with
  | ⟨_, _, h⟩ => h
/-- the run is as it was told -/
noncomputable def memoOk (P : Program) (F : FuncId → Option AFunc) (X : FuncId → Option Ext) (m : Memo) : Bool :=
  orE (enter F m.f m.xs .normal) false fun fr => orE (steps P F X m.n ⟨fr, [], ⟨setL .leaf m.ks, m.next⟩⟩) false fun c => orE (done F c) false fun v =>
    bi (isTop m.f (fixOf c)) (bi (same 20 m.v v) (onHeap (heapOf c) fun t next => bi (peq m.next' next) (bi (soloL t m.ks') (bi (soloL t m.nl) (nodupP (app (grpL t m.ks') (grpL t m.nl))) false) false) false) false) false
/-- and what it told leads nowhere else -/
noncomputable def memoShut (m : Memo) : Bool :=
  bi (all2P (keys m.ks) (keys m.ks')) (bi (nodupP (keys m.ks)) (bi (nodupP (keys m.nl)) (bi (allL (fun p => Nat.ble m.next.toNat p.1.toNat) m.nl) (bi (allL (fun p => Nat.ble (Nat.succ p.1.toNat) m.next.toNat) m.ks)
    (bi (allL (closedV 20 (keys m.ks)) m.xs) (bi (allL (fun p => closedO (keys m.ks) p.2) m.ks) (bi (allL (fun p => closedO (app (keys m.ks) (keys m.nl)) p.2) m.ks') (bi (allL (fun p => closedO (app (keys m.ks) (keys m.nl)) p.2) m.nl)
      (closedV 20 (app (keys m.ks) (keys m.nl)) m.v) false) false) false) false) false) false) false) false) false
  where
  all2P : List Pos → List Pos → Bool
    | [], l => (match l with | [] => true | _ :: _ => false)
    | p :: k, l => (match l with | [] => false | q :: l => bi (peq p q) (all2P k l) false)
/-- what is known of a function from calls that were run before -/
noncomputable def memo (l : List Memo) : Ext := fun xs h => match l with
  | [] => none
  | m :: l => bi (hit m xs h) (some (m.v, out m h)) (memo l xs h)

theorem inL_iff (b : Pos) (l : List Pos) : inL b l = true ↔ b ∈ l := by
  induction l with
  | nil => simp [inL]
  | cons p l ih =>
    show bi (peq b p) true (inL b l) = true ↔ _
    cases h : peq b p with
    | true => have := (peq_iff b p).mp h; simp [this, bi_true]
    | false =>
      have : b ≠ p := fun he => by rw [(peq_iff b p).mpr he] at h; cases h
      rw [bi_false, ih]; simp [this]
theorem nodupP_iff (l : List Pos) : nodupP l = true → l.Nodup := by
  induction l with
  | nil => intro _; exact List.nodup_nil
  | cons p l ih =>
    intro h
    have h : bi (inL p l) false (nodupP l) = true := h
    cases hi : inL p l with
    | true => rw [hi] at h; cases h
    | false =>
      rw [hi] at h
      exact List.nodup_cons.mpr ⟨fun hm => (by rw [(inL_iff p l).mpr hm] at hi; cases hi), ih h⟩
theorem all2P_eq : ∀ (a b : List Pos), memoShut.all2P a b = true → a = b := by
  intro a
  induction a with
  | nil => intro b h; cases b with
    | nil => rfl
    | cons q l => cases h
  | cons p a ih => intro b h; cases b with
    | nil => cases h
    | cons q b =>
      obtain ⟨h1, h2⟩ := bif_tf (b := peq p q) h
      rw [(peq_iff p q).mp h1, ih b h2]
theorem keys_eq (l : List (Pos × AObj)) : keys l = l.map (·.1) := mapT_eq _ l
theorem eqO_eq {a b : Option AV} (h : eqO a b = true) : a = b := by
  cases a with
  | none => cases b <;> first | rfl | cases h
  | some x => cases b with
    | none => cases h
    | some y => rw [same_eq 20 x y h]
theorem eqT_eq : ∀ (t u : T AV), eqT t u = true → t = u := by
  intro t
  induction t with
  | leaf => intro u h; cases u <;> first | rfl | cases h
  | node l v r ihl ihr => intro u h; cases u with
    | leaf => cases h
    | node l' v' r' =>
      obtain ⟨h1, h2⟩ := bif_tf (b := eqO v v') h
      obtain ⟨h3, h4⟩ := bif_tf (b := eqT l l') h2
      rw [eqO_eq h1, ihl l' h3, ihr r' h4]
theorem eqE_eq : ∀ (a b : List (AV × AV)), eqE a b = true → a = b := by
  intro a
  induction a with
  | nil => intro b h; cases b <;> first | rfl | cases h
  | cons p a ih => intro b h; cases b with
    | nil => cases h
    | cons q b =>
      obtain ⟨p1, p2⟩ := p
      obtain ⟨q1, q2⟩ := q
      obtain ⟨h1, h2⟩ := bif_tf (b := same 20 p1 q1) h
      obtain ⟨h3, h4⟩ := bif_tf (b := same 20 p2 q2) h2
      rw [same_eq 20 p1 q1 h1, same_eq 20 p2 q2 h3, ih b h4]
theorem eqObj_eq {o x : AObj} (h : eqObj o x = true) : o = x ∧ grpOf o = none ∧ isGrp o = false := by
  cases o with
  | small e l => cases x with
    | small e' l' =>
      obtain ⟨h1, h2⟩ := bif_tf (b := Nat.beq e e') h
      rw [Nat.eq_of_beq_eq_true h1, all2_eq (same_eq 20) l l' h2]
      exact ⟨rfl, rfl, rfl⟩
    | _ => cases h
  | big e fz n z t g => cases x with
    | big e' fz' n' z' t' g' =>
      obtain ⟨h1, h2⟩ := bif_tf (b := Nat.beq e e') h
      obtain ⟨h3, h4⟩ := bif_tf (b := Nat.beq fz fz') h2
      obtain ⟨h5, h6⟩ := bif_tf (b := Nat.beq n n') h4
      obtain ⟨h7, h8⟩ := bif_tf (b := all2 (same 20) z z') h6
      obtain ⟨h9, h10⟩ := bif_tf (b := eqT t t') h8
      rw [Nat.eq_of_beq_eq_true h1, Nat.eq_of_beq_eq_true h3, Nat.eq_of_beq_eq_true h5, all2_eq (same_eq 20) z z' h7, eqT_eq t t' h9]
      cases g with
      | none => cases g' with
        | none => exact ⟨rfl, rfl, rfl⟩
        | some _ => cases h10
      | some _ => cases h10
    | _ => cases h
  | map es => cases x with
    | map es' => rw [eqE_eq es es' h]; exact ⟨rfl, rfl, rfl⟩
    | _ => cases h
  | _ => cases h

theorem setL_get (b : Pos) : ∀ (l : List (Pos × AObj)) (t : T AObj), (l.map (·.1)).Nodup → (∀ o, (b, o) ∈ l → (setL t l).get b = some o) ∧ (b ∉ l.map (·.1) → (setL t l).get b = t.get b) := by
  intro l
  induction l with
  | nil => intro t _; exact ⟨fun o h => (by cases h), fun _ => rfl⟩
  | cons p l ih =>
    intro t hn
    obtain ⟨c, x⟩ := p
    rw [List.map_cons] at hn
    obtain ⟨h1, h2⟩ := List.nodup_cons.mp hn
    obtain ⟨i1, i2⟩ := ih (t.set x c) h2
    refine ⟨fun o ho => ?_, fun hb => ?_⟩
    · show (setL (t.set x c) l).get b = some o
      rcases List.mem_cons.mp ho with he | ho
      · cases he
        rw [i2 h1, T.get_set, if_pos rfl]
      · exact i1 o ho
    · show (setL (t.set x c) l).get b = t.get b
      rw [List.map_cons, List.mem_cons, not_or] at hb
      rw [i2 hb.2, T.get_set, if_neg (Ne.symm hb.1)]
theorem hitL_mem {t : T AObj} : ∀ {l : List (Pos × AObj)}, hitL t l = true → ∀ p ∈ l, t.get p.1 = some p.2 ∧ grpOf p.2 = none ∧ isGrp p.2 = false := by
  intro l
  induction l with
  | nil => intro _ p hp; cases hp
  | cons q l ih =>
    intro h p hp
    obtain ⟨b, o⟩ := q
    have h : orE (t.get b) false (fun x => bi (eqObj o x) (hitL t l) false) = true := h
    cases hg : t.get b with
    | none => rw [hg] at h; cases h
    | some x =>
      rw [hg] at h
      obtain ⟨h1, h2⟩ := bif_tf (b := eqObj o x) h
      obtain ⟨h3, h4, h5⟩ := eqObj_eq h1
      rcases List.mem_cons.mp hp with rfl | hp
      · exact ⟨by rw [h3]; exact hg, h4, h5⟩
      · exact ih h2 p hp
theorem soloL_mem {t : T AObj} : ∀ {l : List (Pos × AObj)}, soloL t l = true → ∀ p ∈ l, ∃ x, t.get p.1 = some x ∧ p.2 = solo x ∧ grpOf p.2 = none ∧ isGrp p.2 = false := by
  intro l
  induction l with
  | nil => intro _ p hp; cases hp
  | cons q l ih =>
    intro h p hp
    obtain ⟨b, o⟩ := q
    have h : orE (t.get b) false (fun x => bi (eqObj o (solo x)) (soloL t l) false) = true := h
    cases hg : t.get b with
    | none => rw [hg] at h; cases h
    | some x =>
      rw [hg] at h
      obtain ⟨h1, h2⟩ := bif_tf (b := eqObj o (solo x)) h
      obtain ⟨h3, h4, h5⟩ := eqObj_eq h1
      rcases List.mem_cons.mp hp with rfl | hp
      · exact ⟨x, hg, h3, h4, h5⟩
      · exact ih h2 p hp

section
variable {φ ψ : Map}
/-- a value that leads nowhere else -/
theorem VR.closed {ks : List Pos} (hle : ∀ b L, b ∈ ks → φ b = some L → ψ b = some L) : ∀ (d : Nat) (a : AV) (v : Value), VR φ a v → closedV d ks a = true → VR ψ a v := by
  intro d
  induction d with
  | zero => intro a v _ hc; cases hc
  | succ d ih =>
    intro a v H hc
    have list : ∀ (l : List AV) (vs : List Value), VRs φ l vs → allL (closedV d ks) l = true → VRs ψ l vs := by
      intro l
      induction l with
      | nil => intro vs h _; cases h; exact .nil
      | cons x l ihl =>
        intro vs h hc
        cases h with
        | cons _ u _ us h1 h2 =>
          obtain ⟨c1, c2⟩ := bif_true (b := closedV d ks x) hc
          exact .cons _ _ _ _ (ih x u h1 c1) (ihl us h2 c2)
    cases H with
    | un => exact .un _
    | bool b => exact .bool b
    | int k n => exact .int k n
    | str s bs h => exact .str s bs h
    | nilp => exact .nilp
    | ptr b o L h => exact .ptr b o L (hle b L ((inL_iff b ks).mp hc) h)
    | nils => exact .nils
    | sl b o n z cap L h h1 h2 => exact .sl b o n z cap L (hle b L ((inL_iff b ks).mp hc) h) h1 h2
    | sl0 b o z L a h => exact .sl0 b o z L a (hle b L ((inL_iff b ks).mp hc) h)
    | nilm => exact .nilm
    | map b L h => exact .map b L (hle b L ((inL_iff b ks).mp hc) h)
    | nilf => exact .nilf
    | func f first capt fi ca h1 h2 =>
      obtain ⟨c1, c2⟩ := bif_tf (b := allL (closedV d ks) first) hc
      exact .func f first capt fi ca (list _ _ h1 c1) (list _ _ h2 c2)
    | yld b L h => cases hc
    | nili => exact .nili
    | iface t x u h => exact .iface t x u (ih x u h hc)
    | agg l cs h => exact .agg l cs (list _ _ h hc)
    | tup l cs h => exact .tup l cs (list _ _ h hc)
theorem VRs.closed {ks : List Pos} (hle : ∀ b L, b ∈ ks → φ b = some L → ψ b = some L) {d : Nat} {l : List AV} {vs : List Value} (H : VRs φ l vs) (hc : allL (closedV d ks) l = true) : VRs ψ l vs := by
  induction l generalizing vs with
  | nil => cases H; exact .nil
  | cons x l ih =>
    cases H with
    | cons _ u _ us h1 h2 =>
      obtain ⟨c1, c2⟩ := bif_true (b := closedV d ks x) hc
      exact .cons _ _ _ _ (VR.closed hle d x u h1 c1) (ih h2 c2)
theorem allT_get {f : AV → Bool} : ∀ {t : T AV}, allT f t = true → ∀ p v, t.get p = some v → f v = true := by
  intro t
  induction t with
  | leaf => intro _ p v h; cases h
  | node l o r ihl ihr =>
    intro h p v hv
    obtain ⟨h1, h2⟩ := bif_tf h
    obtain ⟨h3, h4⟩ := bif_tf h2
    cases p with
    | H => have hv : o = some v := hv; subst hv; exact h1
    | O q => exact ihl h3 q v hv
    | I q => exact ihr h4 q v hv
theorem EsR.closed {ks : List Pos} (hle : ∀ b L, b ∈ ks → φ b = some L → ψ b = some L) {es : List (AV × AV)} : ∀ {fs : List MapEntry}, EsR φ es fs → allL (fun p => bi (closedV 20 ks p.1) (closedV 20 ks p.2) false) es = true → EsR ψ es fs := by
  induction es with
  | nil => intro fs h _; cases h; exact .nil
  | cons p es ih =>
    intro fs h hc
    cases h with
    | cons k v e _ fs hk hv hs =>
      obtain ⟨c1, c2⟩ := bif_true (b := bi (closedV 20 ks k) (closedV 20 ks v) false) hc
      obtain ⟨c3, c4⟩ := bif_tf c1
      exact .cons k v e es fs (VR.closed hle 20 k _ hk c3) (VR.closed hle 20 v _ hv c4) (ih hs c2)
theorem ObjR.closed {P : Program} {ks : List Pos} (hle : ∀ b L, b ∈ ks → φ b = some L → ψ b = some L) {o : AObj} {L : Loc} {x : Obj} (H : ObjR P φ o L x) (hc : closedO ks o = true) : ObjR P ψ o L x := by
  cases H with
  | cells _ _ e c lo hi he C =>
    refine .cells o L e c lo hi he ⟨C.size, C.fits, fun i v hv => ?_, C.calm, C.warm⟩
    obtain ⟨u, h1, h2⟩ := C.cell i v hv
    refine ⟨u, h1, VR.closed hle 20 v u h2 ?_⟩
    cases o with
    | small e l =>
      have hv : nth l i = some v := hv
      rw [nth_eq] at hv
      exact (allL_iff _ _).mp hc v (List.mem_of_getElem? hv)
    | big e fz n z t g =>
      obtain ⟨c1, c2⟩ := bif_tf (b := allL (closedV 20 ks) z) hc
      obtain ⟨_, hv⟩ := gd_inv (b := Nat.ble (Nat.succ i) n) hv
      cases ht : t.get (pos i) with
      | some y => rw [ht] at hv; cases hv; exact allT_get c2 _ _ ht
      | none =>
        rw [ht] at hv
        have hv : zeroAt z i = some v := hv
        rw [zeroAt_eq] at hv
        exact (allL_iff _ _).mp c1 v (List.mem_of_getElem? hv)
    | _ => cases he
  | map es _ fs clock h hs => exact .map es L fs clock (h.closed hle hc) hs
  | loop => cases hc
  | defd => cases hc
  | taken => cases hc
end

end Go.Ev
/-
  A small machine over closed data, fifty-seven: a run in pieces: between two of them, blocks that nothing leads to are forgotten.
-/
namespace Go.Ev

noncomputable def noRun (l : List AItem) : Bool := match l with
  | [] => true
  | x :: _ => match x with
    | .run _ _ => false
    | _ => true
noncomputable def isRunning (m : AMode) : Bool := match m with
  | .run => true
  | _ => false
/-- a configuration of one frame, and the same one over less memory; some blocks stay -/
structure Cut (K : List Pos) (c c' : ACfg) : Prop where
  cs : c.cs = []
  cs' : c'.cs = []
  fr : c'.fr = c.fr
  mode : c.fr.mode = .run
  calm : noRun c.fr.todo = true
  next : c'.h.next = c.h.next
  sub : ∀ b z, c'.h.t.get b = some z → c.h.t.get b = some z
  grp : ∀ b z g l, c'.h.t.get b = some z → grpOf z = some g → c.h.t.get g = some (.grp l) → c'.h.t.get g = some (.grp l)
  keep : ∀ b ∈ K, ∀ z, c.h.t.get b = some z → c'.h.t.get b = some z
section
variable (P : Program) (F : FuncId → Option AFunc) (X : FuncId → Option Ext) (K : List Pos)
inductive Runs : ACfg → ACfg → Prop where
  | done (c c' : ACfg) (n : Nat) (h : steps P F X n c = some c') : Runs c c'
  | cut (c c1 c2 c' : ACfg) (n : Nat) (h : steps P F X n c = some c1) (k : Cut K c1 c2) (r : Runs c2 c') : Runs c c'
end
section
variable {P : Program} {F : FuncId → Option AFunc} {X : FuncId → Option Ext} {K : List Pos} {φ φ' : Map} {h h' : AHeap} {w w' : World} {cs0 : Bot}

theorem cut_rel {c c' : ACfg} {g : Frame} {gs : List Frame} (C : CfgR P φ cs0 c g gs w) (k : Cut K c c') : CfgR P φ cs0 c' g gs w := by
  obtain ⟨fr, cs, ⟨t, nx⟩⟩ := c
  obtain ⟨fr', cs', ⟨t', nx'⟩⟩ := c'
  obtain ⟨k1, k2, k3, k4, k5, k6, k7, k8, _⟩ := k
  simp only at k1 k2 k3 k4 k5 k6 k7 k8
  subst k1; subst k2; subst k3; subst k6
  obtain ⟨R, pd, D, H, HD, St, hD⟩ := C
  refine ⟨R.less (Nat.le_refl _) k7 k8, ?_⟩
  obtain ⟨x, ads, m, vars, loc, todo⟩ := fr'
  simp only at k4 k5
  subst k4
  obtain ⟨a1, a2, a3, a4, a5, a6⟩ := H
  obtain ⟨hm, B⟩ : g.mode = .run ∧ BodyR P (keepOf P x.fn) (ntOf P x.fn) φ ⟨t, nx'⟩ false vars loc todo g.tmps g.todo pd := a6
  have key : pd = [] ∧ BodyR P (keepOf P x.fn) (ntOf P x.fn) φ ⟨t', nx'⟩ false vars loc todo g.tmps g.todo [] := by
    generalize g.tmps = tmps at B
    generalize g.todo = td at B
    cases B with
    | plain _ _ _ _ _ hv hn ht => exact ⟨rfl, .plain _ _ _ _ _ hv hn ht⟩
    | cnd _ _ x c a b k _ k' hv hn hx ht => exact ⟨rfl, .cnd _ _ x c a b k _ k' hv hn hx ht⟩
    | reg => cases k5
  obtain ⟨rfl, B'⟩ := key
  exact ⟨[], D, ⟨a1, a2, a3, a4, a5, ⟨hm, B'⟩⟩, ⟨fun q hq => (nomatch hq), List.nodup_nil, fun q hq => (nomatch hq)⟩, St, hD⟩

theorem sim_runs (hmix : P.follows .mixedOrders = true) (HF : FOk P F) (HX : XOk P X cs0) (hB : ∀ b, cs0.B b → b ∈ K) {c c' : ACfg} (r : Runs P F X K c c') :
    ∀ (φ : Map) (g : Frame) (gs : List Frame) (w : World), CfgR P φ cs0 c g gs w → From cs0 φ c.h w → Goal P φ cs0 c.h g gs w c' := by
  induction r with
  | done c c' n h => intro φ g gs w C Fr; exact sim_steps hmix HF HX n c c' φ g gs w C Fr h
  | cut c c1 c2 c' n h k r ih =>
    intro φ g gs w C Fr
    obtain ⟨g1, gs1, w1, φ1, k1, k2, k3⟩ := sim_steps hmix HF HX n c c1 φ g gs w C Fr h
    have F1 := Fr.next k3
    have C2 := cut_rel k2 k
    have hle : c1.h.next.toNat ≤ c2.h.next.toNat := by rw [k.next]; exact Nat.le_refl _
    have G2 : Grows cs0.B φ1 φ1 c1.h c2.h w1 w1 :=
      ⟨φ1.le_refl, Nat.le_refl _, rfl, rfl, rfl, fun _ _ _ => rfl, fun b L h1 h2 => (by rw [h1] at h2; cases h2), fun b o hb h1 _ _ h3 => ⟨h3, k.keep b (hB b hb) o h1⟩, hle⟩
    obtain ⟨g2, gs2, w2, φ2, q1, q2, q3⟩ := ih φ1 g1 gs1 w1 C2 (F1.next G2)
    exact ⟨g2, gs2, w2, φ2, k1.trans q1, q2, (k3.trans G2).trans q3⟩

/-- a call, from a run of the machine in pieces -/
theorem calls_of_runs (hmix : P.follows .mixedOrders = true) (HF : FOk P F) {f : FuncId} {fr : AFrame} {c : ACfg} {v : AV} {D : Pos → Prop} {h : AHeap} {xs : List AV} {ys : Array Value} {φ0 : Map} {h0 : AHeap} {w0 : World} (HX : ∀ cs, XOk P X ⟨cs, D, φ0, h0, w0⟩)
    (he : enter F f xs .normal = some fr) (hK : ∀ b, D b → b ∈ K) (hr : Runs P F X K ⟨fr, [], h⟩ c) (hd : done F c = some v) (hx : c.fr.x = ⟨f, .normal, none⟩)
    (R : Rep P φ h w) (hxs : VRs φ xs ys.toList) (hD : ∀ b, D b → b.toNat < h.next.toNat) (Fr : Grows (fun _ => False) φ0 φ h0 h w0 w) :
    Calls P f ys w fun r w' => ∃ u φ', r = .returned u ∧ VR φ' v u ∧ Rep P φ' c.h w' ∧ Grows D φ φ' h c.h w w' := by
  intro cs
  obtain ⟨hfr, _⟩ := enter_rel (P := P) (φ := φ) (h := h) (ys := ys) HF he hxs
  have C : CfgR P φ ⟨cs, D, φ0, h0, w0⟩ ⟨fr, [], h⟩ (Frame.enter P f ys .normal) cs w := ⟨R, [], D, hfr, Held.nil, ⟨rfl, fun b hb => hb⟩, hD⟩
  obtain ⟨g, gs, w', φ', k1, k2, k3⟩ := sim_runs hmix HF (HX cs) hK hr _ _ cs w C Fr
  obtain ⟨h1, u, h2, h3, h4⟩ := done_rel HF k2 hd (by rw [hx])
  have h1 : gs = cs := h1
  subst h1
  exact ⟨.returned u, w', g, ⟨u, φ', rfl, h4, k2.rep, k3⟩, k1, by rw [h2, hx], h3⟩
end

/-- the objects of some blocks -/
noncomputable def pickL (t : T AObj) : List Pos → Option (List (Pos × AObj))
  | [] => some []
  | b :: l => match t.get b with
    | some o => (match pickL t l with
      | some r => some ((b, o) :: r)
      | none => none)
    | none => none
/-- each group of an object is among some blocks -/
noncomputable def grpIn (ks : List Pos) : List (Pos × AObj) → Bool
  | [] => true
  | (_, o) :: l => bi (match o with
    | .big _ _ _ _ _ (some g) => inL g ks
    | _ => true) (grpIn ks l) false
/-- a piece of a run, and what is kept of the memory behind it -/
noncomputable def cutRun (P : Program) (F : FuncId → Option AFunc) (X : FuncId → Option Ext) (n : Nat) (c : ACfg) (ks : List Pos) : Option (AFrame × Pos × List (Pos × AObj)) :=
  match steps P F X n c with
  | some ⟨fr, [], ⟨t, nx⟩⟩ => (match pickL t ks with
    | some l => some (fr, nx, l)
    | none => none)
  | _ => none
noncomputable def cutFine (K ks : List Pos) (fr : AFrame) (l : List (Pos × AObj)) : Bool :=
  bi (nodupP ks) (bi (allIn ks K) (bi (grpIn ks l) (bi (isRunning fr.mode) (noRun fr.todo) false) false) false) false
theorem pickL_spec {t : T AObj} : ∀ {ks : List Pos} {l : List (Pos × AObj)}, pickL t ks = some l → l.map (·.1) = ks ∧ ∀ p ∈ l, t.get p.1 = some p.2 := by
  intro ks
  induction ks with
  | nil => intro l h; cases h; exact ⟨rfl, fun p hp => (nomatch hp)⟩
  | cons b ks ih =>
    intro l h
    unfold pickL at h
    split at h
    · rename_i o ho
      split at h
      · rename_i r hr
        cases h
        obtain ⟨h1, h2⟩ := ih hr
        refine ⟨by rw [List.map_cons, h1], fun p hp => ?_⟩
        rcases List.mem_cons.mp hp with rfl | hp
        · exact ho
        · exact h2 p hp
      · cases h
    · cases h
theorem grpIn_mem {ks : List Pos} : ∀ {l : List (Pos × AObj)}, grpIn ks l = true → ∀ p ∈ l, ∀ g, grpOf p.2 = some g → g ∈ ks := by
  intro l
  induction l with
  | nil => intro _ p hp; cases hp
  | cons q l ih =>
    intro h p hp g hg
    obtain ⟨b, o⟩ := q
    obtain ⟨h1, h2⟩ := bif_tf h
    rcases List.mem_cons.mp hp with rfl | hp
    · cases o with
      | big e fz n z t k =>
        cases hg
        exact (inL_iff g ks).mp h1
      | _ => cases hg
    · exact ih h2 p hp g hg
theorem runs_cut {P : Program} {F : FuncId → Option AFunc} {X : FuncId → Option Ext} {K : List Pos} {n : Nat} {c c' : ACfg} {ks : List Pos} {fr : AFrame} {nx : Pos} {l : List (Pos × AObj)}
    (h : cutRun P F X n c ks = some (fr, nx, l)) (hf : cutFine K ks fr l = true) (r : Runs P F X K ⟨fr, [], ⟨setL .leaf l, nx⟩⟩ c') : Runs P F X K c c' := by
  unfold cutRun at h
  split at h
  · rename_i fr0 t nx0 hs
    split at h
    · rename_i l0 hl
      cases h
      obtain ⟨f1, hf⟩ := bif_tf hf
      obtain ⟨f2, hf⟩ := bif_tf hf
      obtain ⟨f3, hf⟩ := bif_tf hf
      obtain ⟨f4, f5⟩ := bif_tf hf
      obtain ⟨p1, p2⟩ := pickL_spec hl
      have hnd : (l.map (·.1)).Nodup := by rw [p1]; exact nodupP_iff _ f1
      have hin : ∀ b o, (setL .leaf l).get b = some o → (b, o) ∈ l := by
        intro b o hb
        obtain ⟨s1, s2⟩ := setL_get b l .leaf hnd
        by_cases hk : b ∈ l.map (·.1)
        · obtain ⟨q, hq, rfl⟩ := List.mem_map.mp hk
          rw [s1 q.2 hq] at hb; cases hb; exact hq
        · rw [s2 hk] at hb; cases hb
      have hget : ∀ b ∈ ks, ∀ o, t.get b = some o → (setL .leaf l).get b = some o := by
        intro b hb o ho
        rw [← p1] at hb
        obtain ⟨q, hq, rfl⟩ := List.mem_map.mp hb
        have := p2 q hq
        rw [ho] at this
        cases this
        exact (setL_get q.1 l .leaf hnd).1 q.2 hq
      refine .cut _ ⟨fr, [], ⟨t, nx⟩⟩ ⟨fr, [], ⟨setL .leaf l, nx⟩⟩ _ n hs ⟨rfl, rfl, rfl, ?_, f5, rfl, fun b z hb => p2 _ (hin b z hb), fun b z g gl hb hg hgl => ?_, fun b hb z hz => ?_⟩ r
      · obtain ⟨x, ads, m, vars, loc, todo⟩ := fr
        have f4 : isRunning m = true := f4
        cases m with
        | run => rfl
        | _ => cases f4
      · exact hget g (grpIn_mem f3 _ (hin b z hb) g hg) _ hgl
      · exact hget b ((inL_iff b ks).mp ((allL_iff _ _).mp f2 b hb)) z hz
    · cases h
  · cases h
/-- the end of a run is as it was told -/
noncomputable def endOk (F : FuncId → Option AFunc) (m : Memo) (c : ACfg) : Bool := orE (done F c) false fun v =>
    bi (isTop m.f (fixOf c)) (bi (same 20 m.v v) (onHeap (heapOf c) fun t next => bi (peq m.next' next) (bi (soloL t m.ks') (bi (soloL t m.nl) (nodupP (app (grpL t m.ks') (grpL t m.nl))) false) false) false) false) false
/-- a run in pieces is as it was told -/
noncomputable def MemoRun (P : Program) (F : FuncId → Option AFunc) (X : FuncId → Option Ext) (m : Memo) : Prop :=
  ∃ fr c, enter F m.f m.xs .normal = some fr ∧ Runs P F X (keys m.ks) ⟨fr, [], ⟨setL .leaf m.ks, m.next⟩⟩ c ∧ endOk F m c = true
theorem memoRun_of_ok {P : Program} {F : FuncId → Option AFunc} {X : FuncId → Option Ext} {m : Memo} (hok : memoOk P F X m = true) : MemoRun P F X m := by
  unfold memoOk at hok
  cases he : enter F m.f m.xs .normal with
  | none => rw [he] at hok; cases hok
  | some fr =>
    rw [he] at hok
    have hok : orE (steps P F X m.n ⟨fr, [], ⟨setL .leaf m.ks, m.next⟩⟩) false (fun c => endOk F m c) = true := hok
    cases hs : steps P F X m.n ⟨fr, [], ⟨setL .leaf m.ks, m.next⟩⟩ with
    | none => rw [hs] at hok; cases hok
    | some c => rw [hs] at hok; exact ⟨fr, c, he, .done _ _ _ hs, hok⟩
/-- the last piece -/
noncomputable def lastOk (P : Program) (F : FuncId → Option AFunc) (X : FuncId → Option Ext) (m : Memo) (n : Nat) (c : ACfg) : Bool := orE (steps P F X n c) false fun c => endOk F m c
theorem runs_last {P : Program} {F : FuncId → Option AFunc} {X : FuncId → Option Ext} {K : List Pos} {m : Memo} {n : Nat} {c : ACfg} (h : lastOk P F X m n c = true) : ∃ c', Runs P F X K c c' ∧ endOk F m c' = true := by
  have h : orE (steps P F X n c) false (fun c => endOk F m c) = true := h
  cases hs : steps P F X n c with
  | none => rw [hs] at h; cases h
  | some c' => rw [hs] at h; exact ⟨c', .done _ _ _ hs, h⟩

/-- the first piece -/
noncomputable def firstRun (P : Program) (F : FuncId → Option AFunc) (X : FuncId → Option Ext) (m : Memo) (n : Nat) (ks : List Pos) : Option (AFrame × Pos × List (Pos × AObj)) :=
  match enter F m.f m.xs .normal with
  | some fr => cutRun P F X n ⟨fr, [], ⟨setL .leaf m.ks, m.next⟩⟩ ks
  | none => none
/-- what is still to do after some steps -/
noncomputable def todoOf (P : Program) (F : FuncId → Option AFunc) (X : FuncId → Option Ext) (m : Memo) (n : Nat) : List AItem :=
  match enter F m.f m.xs .normal with
  | some fr => (match steps P F X n ⟨fr, [], ⟨setL .leaf m.ks, m.next⟩⟩ with
    | some ⟨fr, _, _⟩ => fr.todo
    | none => [])
  | none => []
theorem runs_first {P : Program} {F : FuncId → Option AFunc} {X : FuncId → Option Ext} {m : Memo} {n : Nat} {ks : List Pos} {fr : AFrame} {nx : Pos} {l : List (Pos × AObj)}
    (h : firstRun P F X m n ks = some (fr, nx, l)) (hf : cutFine (keys m.ks) ks fr l = true) (r : ∃ c, Runs P F X (keys m.ks) ⟨fr, [], ⟨setL .leaf l, nx⟩⟩ c ∧ endOk F m c = true) : MemoRun P F X m := by
  unfold firstRun at h
  split at h
  · rename_i fr0 he
    obtain ⟨c, r1, r2⟩ := r
    exact ⟨fr0, c, he, runs_cut h hf r1, r2⟩
  · cases h
theorem runs_more {P : Program} {F : FuncId → Option AFunc} {X : FuncId → Option Ext} {K : List Pos} {m : Memo} {n : Nat} {c : ACfg} {ks : List Pos} {fr : AFrame} {nx : Pos} {l : List (Pos × AObj)}
    (h : cutRun P F X n c ks = some (fr, nx, l)) (hf : cutFine K ks fr l = true) (r : ∃ c', Runs P F X K ⟨fr, [], ⟨setL .leaf l, nx⟩⟩ c' ∧ endOk F m c' = true) : ∃ c', Runs P F X K c c' ∧ endOk F m c' = true := by
  obtain ⟨c', r1, r2⟩ := r
  exact ⟨c', runs_cut h hf r1, r2⟩

end Go.Ev
/-
  A small machine over closed data, fifty-eight: calls that were run before are contracts.
-/
namespace Go.Ev

/-- what is known of functions, wherever a run that began with nothing stands -/
noncomputable def XAll (P : Program) (X : FuncId → Option Ext) (h0 : AHeap) (w0 : World) : Prop := ∀ frames B, XOk P X ⟨frames, B, fun _ => none, h0, w0⟩

section
variable {P : Program} {F : FuncId → Option AFunc} {X : FuncId → Option Ext}

theorem ObjR.solo {φ : Map} {x : AObj} {L : Loc} {o : Obj} (H : ObjR P φ x L o) : ObjR P φ (Ev.solo x) L o := by
  cases H with
  | cells _ _ e c lo hi he C =>
    cases x with
    | big e2 fz n z t g => exact .cells _ L e c lo hi he ⟨C.size, C.fits, C.cell, C.calm, C.warm⟩
    | _ => exact .cells _ L e c lo hi he C
  | map es _ fs clock h hs => exact .map es L fs clock h hs
  | loop l _ m h => exact .loop l L m h
  | defd ds _ es h => exact .defd ds L es h
  | taken => exact .taken L

theorem grpL_mem {t : T AObj} {g : Pos} : ∀ {l : List (Pos × AObj)} {b : Pos} {o x : AObj}, (b, o) ∈ l → t.get b = some x → grpOf x = some g → g ∈ grpL t l := by
  intro l
  induction l with
  | nil => intro b o x h; cases h
  | cons p l ih =>
    intro b o x hm ht hg
    obtain ⟨c, y⟩ := p
    rcases List.mem_cons.mp hm with he | hm
    · cases he
      unfold grpL
      rw [ht]
      cases x with
      | big e fz n z u g' => cases hg; simp
      | _ => cases hg
    · have := ih hm ht hg
      unfold grpL
      split
      · exact List.mem_cons_of_mem _ this
      · exact this
theorem grpL_apart {t : T AObj} {g : Pos} : ∀ {l : List (Pos × AObj)}, (grpL t l).Nodup → ∀ {b c : Pos} {o o' x y : AObj}, (b, o) ∈ l → (c, o') ∈ l → t.get b = some x → t.get c = some y → grpOf x = some g → grpOf y = some g → b = c := by
  intro l
  induction l with
  | nil => intro _ b c o o' x y h; cases h
  | cons p l ih =>
    intro hn b c o o' x y hb hc hx hy gx gy
    obtain ⟨d, z⟩ := p
    have key : ∀ {e : Pos} {q u : AObj}, t.get d = some u → grpOf u = some g → (e, q) ∈ l → ∀ {v : AObj}, t.get e = some v → grpOf v = some g → False := by
      intro e q u hu gu he v hv gv
      have h1 := grpL_mem he hv gv
      unfold grpL at hn
      rw [hu] at hn
      cases u with
      | big e2 fz n z2 u2 g' =>
        cases gu
        exact (List.nodup_cons.mp hn).1 h1
      | _ => cases gu
    have hn' : (grpL t l).Nodup := by
      unfold grpL at hn
      split at hn
      · exact (List.nodup_cons.mp hn).2
      · exact hn
    rcases List.mem_cons.mp hb with he | hb'
    · cases he
      rcases List.mem_cons.mp hc with he | hc'
      · cases he; rfl
      · exact (key hx gx hc' hy gy).elim
    · rcases List.mem_cons.mp hc with he | hc'
      · cases he
        exact (key hy gy hb' hx gx).elim
      · exact ih hn' hb' hc' hx hy gx gy
theorem grpL_append {t : T AObj} : ∀ (a b : List (Pos × AObj)), grpL t (a ++ b) = grpL t a ++ grpL t b := by
  intro a
  induction a with
  | nil => intro b; rfl
  | cons p a ih =>
    intro b
    obtain ⟨c, y⟩ := p
    have e : ∀ l, grpL t ((c, y) :: l) = match t.get c with | some (.big _ _ _ _ _ (some g)) => g :: grpL t l | _ => grpL t l := fun l => rfl
    rw [List.cons_append, e, e]
    split
    · rw [ih]; rfl
    · exact ih b

theorem key_mem {l : List (Pos × AObj)} {b : Pos} : b ∈ l.map (·.1) ↔ ∃ o, (b, o) ∈ l := by
  rw [List.mem_map]
  constructor
  · rintro ⟨⟨c, o⟩, h, rfl⟩; exact ⟨o, h⟩
  · rintro ⟨o, h⟩; exact ⟨_, h, rfl⟩

/-- a call that was run before -/
theorem memo_runs (hmix : P.follows .mixedOrders = true) (HF : FOk P F) {h0 : AHeap} {w0 : World} (HX : XAll P X h0 w0) (hh0 : h0.next = .H) {m : Memo} (hok : MemoRun P F X m) (hsh : memoShut m = true) {D : Pos → Prop} {φ : Map} {h : AHeap} {w : World} {xs : List AV} {ys : Array Value}
    (hh : hit m xs h = true) (hx : VRs φ xs ys.toList) (R : Rep P φ h w) (Fr : Grows (fun _ => False) (fun _ => none) φ h0 h w0 w) (hD : ∀ b, D b → b.toNat < h.next.toNat) :
    Calls P m.f ys w fun r w' => ∃ u φ', r = .returned u ∧ VR φ' m.v u ∧ Rep P φ' (out m h) w' ∧ Grows D φ φ' h (out m h) w w' := by
  obtain ⟨f, mxs, next, ks, n, v, next', ks', nl⟩ := m
  obtain ⟨t, hn⟩ := h
  -- what was told
  obtain ⟨q1, hh1⟩ := bif_tf (b := bi (none? nl) true (peq next hn)) hh
  obtain ⟨q2, hh2⟩ := bif_tf (b := all2 (same 20) mxs xs) hh1
  clear hh hh1
  have q1 : ∀ b, b ∈ nl.map (·.1) → next = hn ∧ none? nl = false := fun b hb => by
    cases nl with
    | nil => cases hb
    | cons p l => exact ⟨(peq_iff _ _).mp q1, rfl⟩
  have q2 : mxs = xs := all2_eq (same_eq 20) _ _ q2
  subst q2
  have hin := hitL_mem (t := t) (l := ks) hh2
  obtain ⟨e1, hsh⟩ := bif_tf (b := memoShut.all2P (keys ks) (keys ks')) hsh
  obtain ⟨n1, hsh⟩ := bif_tf (b := nodupP (keys ks)) hsh
  obtain ⟨n2, hsh⟩ := bif_tf (b := nodupP (keys nl)) hsh
  obtain ⟨g1, hsh⟩ := bif_tf (b := allL (fun p => Nat.ble next.toNat p.1.toNat) nl) hsh
  obtain ⟨g2, hsh⟩ := bif_tf (b := allL (fun p => Nat.ble (Nat.succ p.1.toNat) next.toNat) ks) hsh
  obtain ⟨c1, hsh⟩ := bif_tf (b := allL (closedV 20 (keys ks)) mxs) hsh
  obtain ⟨c2, hsh⟩ := bif_tf (b := allL (fun p => closedO (keys ks) p.2) ks) hsh
  obtain ⟨c3, hsh⟩ := bif_tf (b := allL (fun p => closedO (app (keys ks) (keys nl)) p.2) ks') hsh
  obtain ⟨c4, c5⟩ := bif_tf (b := allL (fun p => closedO (app (keys ks) (keys nl)) p.2) nl) hsh
  have e1 := all2P_eq _ _ e1
  have n1 := nodupP_iff _ n1
  have n2 := nodupP_iff _ n2
  have g1 : ∀ p ∈ nl, next.toNat ≤ p.1.toNat := fun p hp => Nat.ble_eq.mp ((allL_iff _ _).mp g1 p hp)
  have g2 : ∀ p ∈ ks, p.1.toNat < next.toNat := fun p hp => Nat.ble_eq.mp ((allL_iff _ _).mp g2 p hp)
  rw [app_eq] at c3 c4 c5
  have n1' : (keys ks').Nodup := by rw [← e1]; exact n1
  rw [keys_eq] at n1 n2 n1' e1
  rw [keys_eq ks'] at e1
  obtain ⟨fr, c, o1, o2, hok⟩ := hok
  have o1 : enter F f mxs .normal = some fr := o1
  have o2 : Runs P F X (keys ks) ⟨fr, [], ⟨setL .leaf ks, next⟩⟩ c := o2
  have hok : orE (done F c) false (fun v' =>
      bi (isTop f (fixOf c)) (bi (same 20 v v') (onHeap (heapOf c) fun t nx => bi (peq next' nx) (bi (soloL t ks') (bi (soloL t nl) (nodupP (app (grpL t ks') (grpL t nl))) false) false) false) false) false) = true := hok
  obtain ⟨v', o3, hok⟩ : ∃ v', done F c = some v' ∧
      bi (isTop f (fixOf c)) (bi (same 20 v v') (onHeap (heapOf c) fun t nx => bi (peq next' nx) (bi (soloL t ks') (bi (soloL t nl) (nodupP (app (grpL t ks') (grpL t nl))) false) false) false) false) false = true := by
    cases he : done F c with
    | none => rw [he] at hok; cases hok
    | some v' => rw [he] at hok; exact ⟨v', rfl, hok⟩
  obtain ⟨cfr, ccs, ⟨ct, cn⟩⟩ := c
  obtain ⟨cx, cds, cm, cvars, cloc, ctodo⟩ := cfr
  obtain ⟨o4, hok⟩ := bif_tf hok
  obtain ⟨o5, hok⟩ := bif_tf hok
  obtain ⟨o6, hok⟩ := bif_tf (b := peq next' cn) hok
  obtain ⟨o7, hok⟩ := bif_tf (b := soloL ct ks') hok
  obtain ⟨o8, o9⟩ := bif_tf (b := soloL ct nl) hok
  have o5 : v = v' := same_eq 20 _ _ o5
  subst o5
  have o6 : next' = cn := (peq_iff _ _).mp o6
  subst o6
  have o9 := nodupP_iff _ o9
  rw [app_eq, ← grpL_append] at o9
  have hcx : cx = ⟨f, .normal, none⟩ := by
    obtain ⟨a1, a2, a3⟩ := cx
    have o4 : isTop f ⟨a1, a2, a3⟩ = true := o4
    cases a2 with
    | normal =>
      cases a3 with
      | none => rw [Nat.eq_of_beq_eq_true (show Nat.beq a1 f = true from o4)]
      | some _ => cases o4
    | _ => cases o4
  -- the memory that it read
  let φs : Map := fun b => bi (inL b (keys ks)) (φ b) none
  have hφs : ∀ b L, φs b = some L ↔ b ∈ ks.map (·.1) ∧ φ b = some L := by
    intro b L
    show bi (inL b (keys ks)) (φ b) none = some L ↔ _
    cases hi : inL b (keys ks) with
    | true =>
      have := (inL_iff b _).mp hi
      rw [keys_eq] at this
      rw [bi_true]; exact ⟨fun h => ⟨this, h⟩, fun h => h.2⟩
    | false =>
      rw [bi_false]
      refine ⟨fun h => (by cases h), fun h => ?_⟩
      have := (inL_iff b (keys ks)).mpr (by rw [keys_eq]; exact h.1)
      rw [hi] at this; cases this
  have hsin : ∀ b o, (setL .leaf ks).get b = some o → (b, o) ∈ ks := by
    intro b o hb
    obtain ⟨s1, s2⟩ := setL_get b ks .leaf n1
    by_cases hk : b ∈ ks.map (·.1)
    · obtain ⟨o', ho'⟩ := key_mem.mp hk
      rw [s1 o' ho'] at hb; cases hb; exact ho'
    · rw [s2 hk] at hb; cases hb
  have hsget : ∀ b o, (b, o) ∈ ks → (setL .leaf ks).get b = some o := fun b o ho => (setL_get b ks .leaf n1).1 o ho
  have Rs : Rep P φs ⟨setL .leaf ks, next⟩ w := by
    refine ⟨fun b o hb => g2 _ (hsin b o hb), fun b L hb => ⟨(by obtain ⟨o, ho⟩ := key_mem.mp ((hφs b L).mp hb).1; exact g2 _ ho), (R.dom b L ((hφs b L).mp hb).2).2⟩, fun b o L hb hL => ?_, fun b o hb hg => ?_, fun b c x y L M hb hc hL hM he => ?_, fun g l b hg _ => ?_, fun b x g hb hg => ?_⟩
    · have hm := hsin b o hb
      obtain ⟨X, h1, h2⟩ := R.obj b o L (hin _ hm).1 ((hφs b L).mp hL).2
      exact ⟨X, h1, h2.closed (ks := keys ks) (fun b' L' hb' hL' => (hφs b' L').mpr ⟨by rw [← keys_eq]; exact hb', hL'⟩) ((allL_iff _ _).mp c2 _ hm)⟩
    · rw [(hin _ (hsin b o hb)).2.2] at hg; cases hg
    · rcases R.alone b c x y L M (hin _ (hsin b x hb)).1 (hin _ (hsin c y hc)).1 ((hφs b L).mp hL).2 ((hφs c M).mp hM).2 he with h1 | ⟨g, h1, _⟩
      · exact .inl h1
      · rw [(hin _ (hsin b x hb)).2.1] at h1; cases h1
    · have := (hin _ (hsin g _ hg)).2.2; cases this
    · rw [(hin _ (hsin b x hb)).2.1] at hg; cases hg
  have Frs : Grows (fun _ => False) (fun _ => none) φs h0 ⟨setL .leaf ks, next⟩ w0 w :=
    ⟨fun b L h => (by cases h), Fr.size, Fr.os, Fr.tape, Fr.output, Fr.keep, fun b L hb hn hs => Fr.fresh b L ((hφs b L).mp hb).2 hn hs, fun b o h => h.elim, by rw [hh0]; exact Pos.toNat_pos next⟩
  have hxs : VRs φs mxs ys.toList := hx.closed (ks := keys ks) (fun b' L' hb' hL' => (hφs b' L').mpr ⟨by rw [← keys_eq]; exact hb', hL'⟩) c1
  let D2 : Pos → Prop := fun b => b ∈ ks.map (·.1) ∧ φ b = none
  have hD2 : ∀ b, D2 b → b.toNat < next.toNat := by
    rintro b ⟨hb, _⟩
    obtain ⟨o, ho⟩ := key_mem.mp hb; exact g2 _ ho
  have hcall := calls_of_runs (D := D2) hmix HF (fun cs => HX cs D2) o1 (fun b hb => by rw [keys_eq]; exact hb.1) o2 o3 hcx Rs hxs hD2 Frs
  refine hcall.mono ?_
  rintro r w' ⟨u, φ', rfl, k1, k2, k3⟩
  -- together
  have hA : ∀ b, b ∈ ks.map (·.1) → φ' b = φ b := by
    intro b hb
    cases hφ : φ b with
    | some L => exact k3.le b L ((hφs b L).mpr ⟨hb, hφ⟩)
    | none =>
      obtain ⟨o, ho⟩ := key_mem.mp hb
      have hz : φs b = none := by
        cases hz : φs b with
        | none => rfl
        | some L => have := ((hφs b L).mp hz).2; rw [hφ] at this; cases this
      exact (k3.pend b o ⟨hb, hφ⟩ (hsget b o ho) (hin _ ho).2.1 (hin _ ho).2.2 hz).1
  have hnk : ∀ b, b ∈ nl.map (·.1) → b ∉ ks.map (·.1) := fun b hb hk => by
    obtain ⟨o, ho⟩ := key_mem.mp hb
    obtain ⟨o', ho'⟩ := key_mem.mp hk
    have := g1 _ ho
    have := g2 _ ho'
    simp only at *
    omega
  have hnφ : ∀ b, b ∈ nl.map (·.1) → φ b = none := fun b hb => by
    cases hφ : φ b with
    | none => rfl
    | some L =>
      obtain ⟨o, ho⟩ := key_mem.mp hb
      have h1 := g1 _ ho
      have h2 : b.toNat < hn.toNat := (R.dom b L hφ).1
      rw [← (q1 b hb).1] at h2
      simp only at h1
      omega
  let φ2 : Map := fun b => bi (inL b (keys nl)) (φ' b) (φ b)
  have hφ2n : ∀ b, b ∈ nl.map (·.1) → φ2 b = φ' b := fun b hb => by
    show bi (inL b (keys nl)) (φ' b) (φ b) = _
    rw [(inL_iff b _).mpr (by rw [keys_eq]; exact hb), bi_true]
  have hφ2o : ∀ b, b ∉ nl.map (·.1) → φ2 b = φ b := fun b hb => by
    show bi (inL b (keys nl)) (φ' b) (φ b) = _
    have : inL b (keys nl) = false := by
      rw [← Bool.not_eq_true, inL_iff, keys_eq]; exact hb
    rw [this, bi_false]
  have hshut : ∀ b L, b ∈ keys ks ++ keys nl → φ' b = some L → φ2 b = some L := by
    intro b L hb hL
    rw [keys_eq, keys_eq] at hb
    by_cases hn : b ∈ nl.map (·.1)
    · rw [hφ2n b hn]; exact hL
    · rw [hφ2o b hn]
      rcases List.mem_append.mp hb with h1 | h1
      · rw [← hA b h1]; exact hL
      · exact absurd h1 hn
  have hle2 : φ.le φ2 := fun b L hL => by
    by_cases hn : b ∈ nl.map (·.1)
    · rw [hnφ b hn] at hL; cases hL
    · rw [hφ2o b hn]; exact hL
  have hkk : ∀ b, b ∈ ks'.map (·.1) ↔ b ∈ ks.map (·.1) := fun b => by rw [e1]
  -- what the memory is now
  have hout : out ⟨f, mxs, next, ks, n, v, next', ks', nl⟩ ⟨t, hn⟩ = ⟨setL (setL t ks') nl, bi (none? nl) hn next'⟩ := rfl
  rw [hout]
  have hnx' : ∀ b, b ∈ nl.map (·.1) → bi (none? nl) hn next' = next' := fun b hb => by rw [(q1 b hb).2]; rfl
  have hnx : hn.toNat ≤ (bi (none? nl) hn next').toNat := by
    cases nl with
    | nil => exact Nat.le_refl _
    | cons p l =>
      have := (q1 p.1 (by simp)).1
      rw [← this]
      exact k3.next
  generalize hnx2 : bi (none? nl) hn next' = nxt at hnx hnx'
  have hget : ∀ b z, (setL (setL t ks') nl).get b = some z → ((b, z) ∈ ks' ++ nl) ∨ (b ∉ ks.map (·.1) ∧ b ∉ nl.map (·.1) ∧ t.get b = some z) := by
    intro b z hz
    obtain ⟨s1, s2⟩ := setL_get b nl (setL t ks') n2
    obtain ⟨s3, s4⟩ := setL_get b ks' t n1'
    by_cases hn : b ∈ nl.map (·.1)
    · obtain ⟨o, ho⟩ := key_mem.mp hn
      rw [s1 o ho] at hz; cases hz
      exact .inl (by simp [ho])
    · rw [s2 hn] at hz
      by_cases hk : b ∈ ks'.map (·.1)
      · obtain ⟨o, ho⟩ := key_mem.mp hk
        rw [s3 o ho] at hz; cases hz
        exact .inl (by simp [ho])
      · rw [s4 hk] at hz
        exact .inr ⟨fun h => hk ((hkk b).mpr h), hn, hz⟩
  have hold : ∀ b, b ∉ ks.map (·.1) → b ∉ nl.map (·.1) → (setL (setL t ks') nl).get b = t.get b := fun b h1 h2 => by
    rw [(setL_get b nl (setL t ks') n2).2 h2, (setL_get b ks' t n1').2 (fun h => h1 ((hkk b).mp h))]
  have hlist : ∀ b z, (b, z) ∈ ks' ++ nl → ∃ x, ct.get b = some x ∧ z = solo x ∧ grpOf z = none ∧ isGrp z = false ∧ closedO (keys ks ++ keys nl) z = true ∧ φ2 b = φ' b := by
    intro b z hm
    rcases List.mem_append.mp hm with h1 | h1
    · obtain ⟨x, a1, a2, a3, a4⟩ := soloL_mem o7 _ h1
      have hb : b ∈ ks.map (·.1) := (hkk b).mp (key_mem.mpr ⟨z, h1⟩)
      refine ⟨x, a1, a2, a3, a4, (allL_iff _ _).mp c3 _ h1, ?_⟩
      rw [hφ2o b (fun hn => hnk b hn hb), hA b hb]
    · obtain ⟨x, a1, a2, a3, a4⟩ := soloL_mem o8 _ h1
      exact ⟨x, a1, a2, a3, a4, (allL_iff _ _).mp c4 _ h1, hφ2n b (key_mem.mpr ⟨z, h1⟩)⟩
  have hks : ∀ b, b ∈ ks.map (·.1) → ∀ c y L M, t.get c = some y → c ∉ ks.map (·.1) → φ b = some L → φ c = some M → L.blk = M.blk → False := by
    intro b hb c y L M hc hcn hL hM he
    obtain ⟨o, ho⟩ := key_mem.mp hb
    rcases R.alone b c o y L M (hin _ ho).1 hc hL hM he with h1 | ⟨g, h1, _⟩
    · subst h1; exact hcn hb
    · rw [(hin _ ho).2.1] at h1; cases h1
  have hapart : ∀ b z c y L M, (b, z) ∈ ks' ++ nl → t.get c = some y → c ∉ ks.map (·.1) → c ∉ nl.map (·.1) → φ2 b = some L → φ2 c = some M → L.blk = M.blk → False := by
    intro b z c y L M hm hc hck hcn hL hM he
    rw [hφ2o c hcn] at hM
    rcases List.mem_append.mp hm with h1 | h1
    · have hb : b ∈ ks.map (·.1) := (hkk b).mp (key_mem.mpr ⟨z, h1⟩)
      rw [hφ2o b (fun hn => hnk b hn hb)] at hL
      exact hks b hb c y L M hc hck hL hM he
    · have hb : b ∈ nl.map (·.1) := key_mem.mpr ⟨z, h1⟩
      rw [hφ2n b hb] at hL
      have hz : φs b = none := by
        cases hz : φs b with
        | none => rfl
        | some N => exact absurd ((hφs b N).mp hz).1 (hnk b hb)
      obtain ⟨d, N, d1, d2⟩ := k3.fresh b L hL hz (by rw [he]; exact (R.dom c M hM).2)
      obtain ⟨d3, d4⟩ := (hφs d N).mp d1
      exact hks d d3 c y N M hc hck d4 hM (by omega)
  have Rn : Rep P φ2 ⟨setL (setL t ks') nl, nxt⟩ w' := by
    refine ⟨fun b z hb => ?_, fun b L hL => ?_, fun b z L hb hL => ?_, fun b z hb hg => ?_, fun b c z y L M hb hc hL hM he => ?_, fun g l b hg hb => ?_, fun b z g hb hg => ?_⟩
    · rcases hget b z hb with h1 | ⟨_, _, h1⟩
      · obtain ⟨x, a1, _⟩ := hlist b z h1
        show b.toNat < nxt.toNat
        rcases List.mem_append.mp h1 with h2 | h2
        · obtain ⟨o, ho⟩ := key_mem.mp ((hkk b).mp (key_mem.mpr ⟨z, h2⟩))
          have h3 : b.toNat < hn.toNat := R.low b o (hin _ ho).1
          omega
        · rw [hnx' b (key_mem.mpr ⟨z, h2⟩)]
          exact k2.low b x a1
      · have h2 : b.toNat < hn.toNat := R.low b z h1
        show b.toNat < nxt.toNat
        omega
    · by_cases hnn : b ∈ nl.map (·.1)
      · rw [hφ2n b hnn] at hL
        have := k2.dom b L hL
        refine ⟨?_, this.2⟩
        show b.toNat < nxt.toNat
        rw [hnx' b hnn]; exact this.1
      · rw [hφ2o b hnn] at hL
        have h2 := R.dom b L hL
        have h3 : b.toNat < hn.toNat := h2.1
        have h4 := k3.size
        exact ⟨by show b.toNat < nxt.toNat; omega, by omega⟩
    · rcases hget b z hb with h1 | ⟨h2, h3, h1⟩
      · obtain ⟨x, a1, a2, a3, a4, a5, a6⟩ := hlist b z h1
        rw [a6] at hL
        obtain ⟨O, b1, b2⟩ := k2.obj b x L a1 hL
        refine ⟨O, b1, ?_⟩
        rw [a2] at a5 ⊢
        exact (b2.solo).closed hshut a5
      · have hL' := hL
        rw [hφ2o b h3] at hL'
        obtain ⟨O, b1, b2⟩ := R.obj b z L h1 hL'
        refine ⟨O, ?_, b2.mono hle2⟩
        rw [k3.keep L.blk (R.dom b L hL').2 ?_]
        · exact b1
        · intro d N hd he
          obtain ⟨d3, d4⟩ := (hφs d N).mp hd
          exact hks d d3 b z N L h1 h2 d4 hL' he
    · rcases hget b z hb with h1 | ⟨h2, h3, h1⟩
      · obtain ⟨x, a1, a2, a3, a4, _⟩ := hlist b z h1
        rw [a4] at hg; cases hg
      · rw [hφ2o b h3]; exact R.grp b z h1 hg
    · rcases hget b z hb with h1 | ⟨h2, h3, h1⟩
      · rcases hget c y hc with h4 | ⟨h5, h6, h4⟩
        · obtain ⟨x, a1, _, _, _, _, a6⟩ := hlist b z h1
          obtain ⟨x', b1, _, _, _, _, b6⟩ := hlist c y h4
          rw [a6] at hL
          rw [b6] at hM
          rcases k2.alone b c x x' L M a1 b1 hL hM he with h7 | ⟨g, h7, h8, _⟩
          · exact .inl h7
          · exact .inl (grpL_apart o9 h1 h4 a1 b1 h7 h8)
        · exact (hapart b z c y L M h1 h4 h5 h6 hL hM he).elim
      · rcases hget c y hc with h4 | ⟨h5, h6, h4⟩
        · exact (hapart c y b z M L h4 h1 h2 h3 hM hL he.symm).elim
        · rw [hφ2o b h3] at hL
          rw [hφ2o c h6] at hM
          exact R.alone b c z y L M h1 h4 hL hM he
    · rcases hget g _ hg with h1 | ⟨h2, h3, h1⟩
      · obtain ⟨x, a1, a2, a3, a4, _⟩ := hlist g _ h1
        cases a4
      · obtain ⟨l1, l2⟩ := R.listed g l b h1 hb
        have l1 : b.toNat < hn.toNat := l1
        refine ⟨by show b.toNat < nxt.toNat; omega, fun z hz => ?_⟩
        rcases hget b z hz with h4 | ⟨h5, h6, h4⟩
        · exfalso
          rcases List.mem_append.mp h4 with h5 | h5
          · obtain ⟨o, ho⟩ := key_mem.mp ((hkk b).mp (key_mem.mpr ⟨z, h5⟩))
            have := l2 o (hin _ ho).1
            rw [(hin _ ho).2.1] at this; cases this
          · have := g1 _ h5
            rw [(q1 b (key_mem.mpr ⟨z, h5⟩)).1] at this
            simp only at this
            omega
        · exact l2 z h4
    · rcases hget b z hb with h1 | ⟨h2, h3, h1⟩
      · obtain ⟨x, a1, a2, a3, a4, _⟩ := hlist b z h1
        rw [a3] at hg; cases hg
      · obtain ⟨l, l1, l2⟩ := R.member b z g h1 hg
        refine ⟨l, ?_, l2⟩
        show (setL (setL t ks') nl).get g = _
        rw [hold g (fun hk => ?_) (fun hk => ?_)]
        · exact l1
        · obtain ⟨o, ho⟩ := key_mem.mp hk
          have := (hin _ ho)
          rw [show t.get g = some (.grp l) from l1] at this
          obtain ⟨q1, q2, q3⟩ := this
          cases q1; cases q3
        · obtain ⟨o, ho⟩ := key_mem.mp hk
          have h5 := g1 _ ho
          have h6 : g.toNat < hn.toNat := R.low g _ l1
          rw [(q1 g hk).1] at h5
          simp only at h5
          omega
  refine ⟨u, φ2, rfl, VR.closed hshut 20 _ _ k1 c5, Rn, ⟨hle2, k3.size, k3.os, k3.tape, k3.output, fun β hβ hno => k3.keep β hβ fun b L hb => hno b L ((hφs b L).mp hb).2, fun b L hb hnb hs => ?_, fun b o hDb hb hg hi hnb => ?_, hnx⟩⟩
  · by_cases hnn : b ∈ nl.map (·.1)
    · rw [hφ2n b hnn] at hb
      have hz : φs b = none := by
        cases hz : φs b with
        | none => rfl
        | some N => have := ((hφs b N).mp hz).2; rw [hnb] at this; cases this
      obtain ⟨d, N, d1, d2⟩ := k3.fresh b L hb hz hs
      exact ⟨d, N, ((hφs d N).mp d1).2, d2⟩
    · rw [hφ2o b hnn, hnb] at hb; cases hb
  · have hlow : b.toNat < hn.toNat := hD b hDb
    have hnn : b ∉ nl.map (·.1) := fun hk => by
      obtain ⟨o', ho'⟩ := key_mem.mp hk
      have h5 := g1 _ ho'
      rw [(q1 b hk).1] at h5
      simp only at h5
      omega
    refine ⟨by rw [hφ2o b hnn]; exact hnb, ?_⟩
    by_cases hk : b ∈ ks.map (·.1)
    · obtain ⟨o', ho'⟩ := key_mem.mp hk
      have h6 := (hin _ ho').1
      have h6 : o' = o := by
        have hb : t.get b = some o := hb
        have h6 : t.get b = some o' := h6
        rw [hb] at h6
        exact (Option.some.inj h6).symm
      rw [h6] at ho'
      have hz : φs b = none := by
        cases hz : φs b with
        | none => rfl
        | some L => have := ((hφs b L).mp hz).2; rw [hnb] at this; cases this
      have h7 := (k3.pend b o ⟨hk, hnb⟩ (hsget b o ho') hg hi hz).2
      obtain ⟨z, hz2⟩ := key_mem.mp ((hkk b).mpr hk)
      obtain ⟨x, a1, a2, _⟩ := hlist b z (by simp [hz2])
      have h7 : ct.get b = some o := h7
      have h8 : x = o := by rw [h7] at a1; exact (Option.some.inj a1).symm
      rw [h8] at a2
      have hso : solo o = o := by
        cases o with
        | big e fz n z t g => cases hg; rfl
        | _ => rfl
      rw [hso] at a2
      rw [← a2]
      show (setL (setL t ks') nl).get b = some z
      rw [(setL_get b nl (setL t ks') n2).2 hnn]
      exact (setL_get b ks' t n1').1 z hz2
    · show (setL (setL t ks') nl).get b = some o
      rw [hold b hk hnn]; exact hb
theorem memo_rel (hmix : P.follows .mixedOrders = true) (HF : FOk P F) {h0 : AHeap} {w0 : World} (HX : XAll P X h0 w0) (hh0 : h0.next = .H) {m : Memo} (hok : memoOk P F X m = true) (hsh : memoShut m = true) {D : Pos → Prop} {φ : Map} {h : AHeap} {w : World} {xs : List AV} {ys : Array Value}
    (hh : hit m xs h = true) (hx : VRs φ xs ys.toList) (R : Rep P φ h w) (Fr : Grows (fun _ => False) (fun _ => none) φ h0 h w0 w) (hD : ∀ b, D b → b.toNat < h.next.toNat) :
    Calls P m.f ys w fun r w' => ∃ u φ', r = .returned u ∧ VR φ' m.v u ∧ Rep P φ' (out m h) w' ∧ Grows D φ φ' h (out m h) w w' :=
  memo_runs hmix HF HX hh0 (memoRun_of_ok hok) hsh hh hx R Fr hD
theorem memo_inv {h : AHeap} {xs : List AV} {r : AV × AHeap} : ∀ {ms : List Memo}, memo ms xs h = some r → ∃ m ∈ ms, hit m xs h = true ∧ r = (m.v, out m h) := by
  intro ms
  induction ms with
  | nil => intro he; cases he
  | cons m ms ih =>
    intro he
    have he : bi (hit m xs h) (some (m.v, out m h)) (memo ms xs h) = some r := he
    cases hh : hit m xs h with
    | true => rw [hh] at he; cases he; exact ⟨m, by simp, hh, rfl⟩
    | false =>
      rw [hh] at he
      obtain ⟨m', h1, h2⟩ := ih he
      exact ⟨m', by simp [h1], h2⟩

/-- one more function that is taken by contract -/
noncomputable def withX (f : FuncId) (e : Ext) (X : FuncId → Option Ext) : FuncId → Option Ext := fun g => bi (Nat.beq g f) (some e) (X g)
/-- a contract -/
noncomputable def Contract (P : Program) (f : FuncId) (e : Ext) (h0 : AHeap) (w0 : World) : Prop :=
  ∀ (D : Pos → Prop) (φ : Map) (h : AHeap) (w : World) (xs : List AV) (ys : Array Value) (v : AV) (h' : AHeap), e xs h = some (v, h') → VRs φ xs ys.toList → Rep P φ h w → Grows (fun _ => False) (fun _ => none) φ h0 h w0 w → (∀ b, D b → b.toNat < h.next.toNat) →
    Calls P f ys w fun r w' => ∃ u φ', r = .returned u ∧ VR φ' v u ∧ Rep P φ' h' w' ∧ Grows D φ φ' h h' w w'
theorem XAll.none {h0 : AHeap} {w0 : World} : XAll P (fun _ => Option.none) h0 w0 := fun _ _ f e h => by cases h
theorem XAll.with {h0 : AHeap} {w0 : World} (HX : XAll P X h0 w0) {f : FuncId} {e : Ext} (hf : ∃ fn, P.funcs[f]? = some fn ∧ fn.body.isSome = true ∧ fn.name ≠ "runtime.NumGoroutine") (hc : Contract P f e h0 w0) : XAll P (withX f e X) h0 w0 := by
  intro frames B g e' he
  have he : bi (Nat.beq g f) (some e) (X g) = some e' := he
  cases hb : Nat.beq g f with
  | true =>
    rw [hb] at he
    cases he
    rw [Nat.eq_of_beq_eq_true hb]
    exact ⟨hf, fun D φ h w xs ys v h' h1 h2 h3 h4 h5 => hc D φ h w xs ys v h' h1 h2 h3 h4 h5⟩
  | false =>
    rw [hb] at he
    exact HX frames B g e' he
/-- calls that were run before -/
theorem XAll.memos (hmix : P.follows .mixedOrders = true) (HF : FOk P F) {h0 : AHeap} {w0 : World} (HX : XAll P X h0 w0) (hh0 : h0.next = .H) {f : FuncId} {ms : List Memo} (hf : ∃ af, F f = some af)
    (hms : ∀ m ∈ ms, m.f = f ∧ MemoRun P F X m ∧ memoShut m = true) : XAll P (withX f (memo ms) X) h0 w0 := by
  obtain ⟨af, haf⟩ := hf
  refine HX.with (HF.callable haf) ?_
  intro D φ h w xs ys v h' he hx R Fr hD
  obtain ⟨m, h1, h2, h3⟩ := memo_inv he
  cases h3
  obtain ⟨k1, k2, k3⟩ := hms m h1
  rw [← k1]
  exact memo_runs hmix HF HX hh0 k2 k3 h2 hx R Fr hD
end

end Go.Ev
/-
  A small machine over closed data, fifty-nine: objects that a call outside made.
-/
namespace Go.Ev

section
variable {P : Program} {φ : Map} {h : AHeap} {w w' : World}
/-- an object takes a block that came beyond what was there -/
theorem Rep.realize_at (R : Rep P φ h w) {b : Pos} {o : AObj} {x : Obj} {L : Loc} (hb : h.t.get b = some o) (hn : φ b = none) (hi : isGrp o = false) (hL : w.heap.size ≤ L.blk)
    (ho : ObjR P (φ.put b L) o L x) (hx : w'.heap[L.blk]? = some x) (hk : ∀ k, k < w.heap.size → w'.heap[k]? = w.heap[k]?) : Rep P (φ.put b L) h w' := by
  have hle := φ.le_put b L hn
  have hs := (Array.getElem?_eq_some_iff.mp hx).1
  refine ⟨R.low, ?_, ?_, ?_, ?_, R.listed, R.member⟩
  · intro c M hc
    by_cases he : b = c
    · subst he
      rw [φ.put_same] at hc; cases hc
      exact ⟨R.low _ _ hb, hs⟩
    · rw [φ.put_other L he] at hc
      have := R.dom c M hc
      exact ⟨this.1, by omega⟩
  · intro c y M hc hM
    by_cases he : b = c
    · subst he
      rw [φ.put_same] at hM; cases hM
      rw [hb] at hc; cases hc
      exact ⟨x, hx, ho⟩
    · rw [φ.put_other L he] at hM
      obtain ⟨z, h1, h2⟩ := R.obj c y M hc hM
      refine ⟨z, ?_, h2.mono hle⟩
      rw [hk _ (R.dom c M hM).2]; exact h1
  · intro c y hc hy
    by_cases he : b = c
    · subst he; rw [hb] at hc; cases hc; rw [hi] at hy; cases hy
    · rw [φ.put_other L he]; exact R.grp c y hc hy
  · intro c d y z M N hc hd hM hN he
    by_cases h1 : b = c
    · subst h1
      by_cases h2 : b = d
      · exact .inl h2
      · rw [φ.put_same] at hM; cases hM
        rw [φ.put_other L h2] at hN
        have := (R.dom d N hN).2; omega
    · rw [φ.put_other L h1] at hM
      by_cases h2 : b = d
      · subst h2
        rw [φ.put_same] at hN; cases hN
        have := (R.dom c M hM).2; omega
      · rw [φ.put_other L h2] at hN
        exact R.alone c d y z M N hc hd hM hN he
theorem Rep.make_at (R : Rep P φ h w) (D : Pos → Prop) {o : AObj} {x : Obj} {L : Loc} (hg : grpOf o = none) (hi : isGrp o = false) (ho : ObjR P (φ.put h.next L) o L x) (hL : w.heap.size ≤ L.blk)
    (hx : w'.heap[L.blk]? = some x) (hk : RowKit.Below w.heap.size w w') :
    Rep P (φ.put h.next L) (new h o) w' ∧ Grows D φ (φ.put h.next L) h (new h o) w w' ∧ (φ.put h.next L) h.next = some L := by
  obtain ⟨R1, G1, h4, h5, h6⟩ := R.pend hg hi D
  refine ⟨R1.realize_at h4 h5 hi hL ho hx hk.block, ?_, φ.put_same _ _⟩
  refine ⟨φ.le_put _ L h5, hk.size, hk.os, hk.tape, hk.output, fun β hβ _ => hk.block β hβ, ?_, ?_, G1.next⟩
  · intro c M hc hcn hs
    by_cases he : h.next = c
    · subst he; rw [φ.put_same] at hc; cases hc; omega
    · rw [φ.put_other L he, hcn] at hc; cases hc
  · intro b z hd hb hz hiz hn
    have hne : h.next ≠ b := by rintro rfl; rw [h6] at hb; cases hb
    obtain ⟨_, h7⟩ := G1.pend b z hd hb hz hiz hn
    exact ⟨by rw [φ.put_other L hne]; exact hn, h7⟩
/-- what was there is there still -/
theorem Rep.below (R : Rep P φ h w) (hk : RowKit.Below w.heap.size w w') (D : Pos → Prop) : Rep P φ h w' ∧ Grows D φ φ h h w w' := by
  refine ⟨⟨R.low, fun b L hb => ⟨(R.dom b L hb).1, Nat.lt_of_lt_of_le (R.dom b L hb).2 hk.size⟩, ?_, R.grp, R.alone, R.listed, R.member⟩, ⟨φ.le_refl, hk.size, hk.os, hk.tape, hk.output, fun β hβ _ => hk.block β hβ, fun b L h1 h2 => (by rw [h1] at h2; cases h2), fun b o _ h1 _ _ h3 => ⟨h3, h1⟩, Nat.le_refl _⟩⟩
  intro b o L hb hL
  obtain ⟨x, h1, h2⟩ := R.obj b o L hb hL
  exact ⟨x, by rw [hk.block _ (R.dom b L hL).2]; exact h1, h2⟩
end

end Go.Ev
