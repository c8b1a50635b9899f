/- What this text proves: laws.FnExactAgreesIn, told as plain functions of numbers and lists, answers true for all arguments.
   Conditions: the bounds that the typed reading gives. -/
import Derived.Test.YtniaodllgeloiaaPKx8
import Derived.Test.YtniaodllgeloiaaOpen
import Derived.Test.YtniaodllgeloiaaBase
namespace Go.Proofs.Ytniaodllgeloiaa.PK
open Go.RowKit Go.Proofs.Ytniaodllgeloiaa.Base Go.Proofs.Ytniaodllgeloiaa.Open Go.Proofs.YtniaodllgeloiaaW.PrintWords Go.Proofs.YtniaodllgeloiaaW.PrintLast Go.Proofs.YtniaodllgeloiaaW.PrintMore
set_option linter.unusedVariables false
set_option linter.unusedSimpArgs false
theorem u4 : Opens Try.prog 4 Kd.bool (fun x => True) := Opens.bool Try.underlying4 (by kernel_rfl)
theorem u3 : Opens Try.prog 3 (Kd.int .i64) (fun x => (Lit.int .i64 x).wf = true) := Opens.int Try.underlying3 (by kernel_rfl)
def W109 (x : S109) : Prop := True ∧ (Lit.int .i64 x.f1).wf = true
theorem o109 : Opens Try.prog 109 k109 W109 := by
  have h := Opens.struct Try.underlying109 (by kernel_rfl) (Fits.cons (P := Try.prog) rfl u4 (Fits.one (P := Try.prog) rfl u3))
  exact Opens.iso (fun x : S109 => (x.f0, x.f1)) (fun p => ⟨p.1, p.2⟩) (fun _ => rfl) h
theorem u85 : Opens Try.prog 85 (Kd.slice 109 k109) (fun x => (x.length ≤ 9223372036854775807 ∧ ∀ z ∈ x, W109 z)) := Opens.slice Try.underlying85 (by kernel_rfl) o109
def W87 (x : S87) : Prop := (x.f0.length ≤ 9223372036854775807 ∧ ∀ z ∈ x.f0, W109 z)
theorem o87 : Opens Try.prog 87 k87 W87 := by
  have h := Opens.struct Try.underlying87 (by kernel_rfl) (Fits.one (P := Try.prog) rfl u85)
  exact Opens.iso (fun x : S87 => x.f0) (fun p => ⟨p⟩) (fun _ => rfl) h
theorem u22 : Opens Try.prog 22 (Kd.slice 87 k87) (fun x => (x.length ≤ 9223372036854775807 ∧ ∀ z ∈ x, W87 z)) := Opens.slice Try.underlying22 (by kernel_rfl) o87
/-- The place of the first element at which p says yes, counted from i; -1 for none. -/
def idxN {α : Type} (p : α → Bool) : List α → Nat → Int
  | [], _ => -1
  | x :: r, i => if p x = true then (i : Int) else idxN p r (i + 1)
theorem idxO_val {α : Type} {F : α → Option Bool} {p : α → Bool} : ∀ (l : List α) (i : Nat), (∀ x ∈ l, F x = some (p x)) → idxO F l i = some (idxN p l i)
  | [], _, _ => rfl
  | x :: r, i, h => by
    simp only [idxO, idxN, h x (List.mem_cons_self ..), Option.bind_some]
    rw [idxO_val r (i + 1) (fun y hy => h y (List.mem_cons_of_mem _ hy))]
    split <;> rfl
theorem idxN_cons {α : Type} (p : α → Bool) (x : α) (r : List α) (i : Nat) : idxN p (x :: r) i = if p x = true then (i : Int) else idxN p r (i + 1) := rfl
theorem idxN_anyP {α : Type} (p : α → Bool) : ∀ (l : List α) (i : Nat), (idxN p l i ≥ 0) ↔ l.any p = true
  | [], _ => by simp [idxN]
  | x :: r, i => by
    rw [idxN_cons]
    by_cases h : p x = true
    · rw [if_pos h, List.any_cons, h]; simp
    · rw [if_neg h, List.any_cons, Bool.eq_false_iff.2 h, Bool.false_or]; exact idxN_anyP p r (i + 1)
theorem idxN_any {α : Type} (p : α → Bool) (l : List α) (i : Nat) : decide (idxN p l i ≥ 0) = l.any p := by
  rw [Bool.eq_iff_iff, decide_eq_true_iff]; exact idxN_anyP p l i
theorem idxN_ge {α : Type} (p : α → Bool) : ∀ (l : List α) (i : Nat), idxN p l i = -1 ∨ (i : Int) ≤ idxN p l i
  | [], _ => .inl rfl
  | x :: r, i => by
    simp only [idxN]
    split
    · exact .inr (Int.le_refl _)
    · rcases idxN_ge p r (i + 1) with h | h
      · exact .inl h
      · exact .inr (by omega)
theorem idxO_any {α : Type} {F : α → Option Bool} {p : α → Bool} {l : List α} (h : ∀ x ∈ l, F x = some (p x)) : ((idxO F l 0).bind fun i => some (decide (i ≥ 0))) = some (l.any p) := by
  rw [idxO_val l 0 h]; simp only [Option.bind_some]; rw [idxN_any]
theorem idxO_Ev {α : Type} {F : Nat → α → Option Bool} {p : α → Bool} : ∀ (l : List α) (i : Nat), (∀ x ∈ l, Ev (fun k => F k x) (p x)) → Ev (fun k => idxO (F k) l i) (idxN p l i)
  | [], _, _ => Ev.now _
  | x :: r, i, h => by
    show Ev (fun k => (F k x).bind fun b => if b = true then some (i : Int) else idxO (F k) r (i + 1)) _
    refine Ev.bind (h x (List.mem_cons_self ..)) ?_
    simp only [idxN]
    refine Ev.cases (fun hp => Ev.some (by rw [if_pos hp])) (fun hp => ?_)
    rw [if_neg hp]
    exact idxO_Ev r (i + 1) (fun y hy => h y (List.mem_cons_of_mem _ hy))
theorem idxAny_Ev {α : Type} {F : Nat → α → Option Bool} {p : α → Bool} {l : List α} (h : ∀ x ∈ l, Ev (fun k => F k x) (p x)) : Ev (fun k => (idxO (F k) l 0).bind fun i => some (decide (i ≥ 0))) (l.any p) := by
  refine Ev.bind (idxO_Ev l 0 h) (Ev.some ?_)
  exact idxN_any p l 0

theorem laws_szReplicaS.ev (l : List S109) (a : Int) (h0 : 0 ≤ a) (h1 : a ≤ 1048576) (hl : l.length ≤ 9223372036854775807) : ∃ r, laws_szReplicaS.f l a = some r ∧ r ≤ a ∧ (0 ≤ r → l.length ≤ 1048576) := by
  unfold laws_szReplicaS.f
  rw [w64 (by omega) (by omega)]
  by_cases h : a < l.length
  · exact ⟨-1, by rw [if_pos (by omega)], by omega, fun h => by omega⟩
  · exact ⟨_, by rw [if_neg (by omega)], by omega, fun _ => by omega⟩

theorem laws_szShard.ev (l : List S109) (a : Int) (h0 : 0 ≤ a) (h1 : a ≤ 1048576) (hl : l.length ≤ 9223372036854775807) : ∃ r, laws_szShard.f l a = some r ∧ r ≤ a ∧ (0 ≤ r → l.length ≤ 1048576) := by
  obtain ⟨r, hr, h2, h3⟩ := laws_szReplicaS.ev l a h0 h1 hl
  unfold laws_szShard.f
  rw [hr]
  simp only [Option.bind_some]
  by_cases h : r < 0
  · exact ⟨-1, by rw [if_pos h], by omega, fun h => by omega⟩
  · exact ⟨r, by rw [if_neg h], h2, h3⟩

def okShards (l : List S87) : Prop := l.length ≤ 1048576 ∧ ∀ x ∈ l, x.f0.length ≤ 1048576
theorem laws_szShardS.ev (l : List S87) (a : Int) (h0 : 0 ≤ a) (h1 : a ≤ 1048576) (hl : l.length ≤ 9223372036854775807) (hx : ∀ x ∈ l, x.f0.length ≤ 9223372036854775807) :
    ∃ r, Ev (fun k => laws_szShardS.f k l a) r ∧ (0 ≤ r → okShards l) := by
  unfold laws_szShardS.f
  rw [w64 (by omega) (by omega)]
  by_cases h : a - l.length < 0
  · exact ⟨-1, Ev.pos h (Ev.now _), fun h => by omega⟩
  · have key : ∀ d i : Nat, i + d = l.length → ∀ b : Int, 0 ≤ b → b ≤ 1048576 → ∃ r, Ev (fun k => laws_szShardS.l0 k l b i) r ∧ (0 ≤ r → ∀ x ∈ l.drop i, x.f0.length ≤ 1048576) := by
      intro d
      induction d with
      | zero =>
        intro i hi b hb0 hb1
        have : i = l.length := by omega
        subst this
        exact ⟨b, Ev.step (fun k => by rw [laws_szShardS.l0]) (Ev.neg (by omega) (Ev.now _)), fun _ x hx => by simp at hx⟩
      | succ d ih =>
        intro i hi b hb0 hb1
        have hlt : i < l.length := by omega
        obtain ⟨r, hr, h2, h3⟩ := laws_szShard.ev l[i].f0 b hb0 hb1 (hx _ (List.getElem_mem hlt))
        have e : rd_T87 l (i : Int) = l[i] := getD_nat l _ hlt
        by_cases hr0 : r < 0
        · refine ⟨-1, Ev.step (fun k => by rw [laws_szShardS.l0]) (Ev.pos (by omega) (Ev.pos (by omega) ?_)), fun h => by omega⟩
          rw [e]
          exact Ev.bindS hr (Ev.pos hr0 (Ev.now _))
        · obtain ⟨q, hq, h4⟩ := ih (i + 1) (by omega) r (by omega) (by omega)
          refine ⟨q, Ev.step (fun k => by rw [laws_szShardS.l0]) (Ev.pos (by omega) (Ev.pos (by omega) ?_)), fun h x hx => ?_⟩
          · rw [e, w64_succ hlt hl]
            exact Ev.bindS hr (Ev.neg hr0 hq)
          · rw [List.drop_eq_getElem_cons hlt] at hx
            rcases List.mem_cons.1 hx with rfl | hx
            · exact h3 (by omega)
            · exact h4 h x hx
    obtain ⟨r, hr, h2⟩ := key l.length 0 (by omega) (a - l.length) (by omega) (by omega)
    exact ⟨r, Ev.neg h hr, fun h => ⟨by omega, fun x hx => h2 h x (by simpa using hx)⟩⟩

theorem laws_szCommit.ev (l : List S87) (d r a : Int) (h0 : 0 ≤ a) (h1 : a ≤ 1048576) (hl : l.length ≤ 9223372036854775807) (hx : ∀ x ∈ l, x.f0.length ≤ 9223372036854775807) :
    ∃ q, Ev (fun k => laws_szCommit.f k l d r a) q ∧ (0 ≤ q → okShards l) := by
  obtain ⟨q, hq, h2⟩ := laws_szShardS.ev l a h0 h1 hl hx
  unfold laws_szCommit.f
  by_cases h : q < 0
  · exact ⟨-1, Ev.bind hq (Ev.pos h (Ev.now _)), fun h => by omega⟩
  · exact ⟨q, Ev.bind hq (Ev.neg h (Ev.now _)), h2⟩

theorem spec_l1In.ev (n a b : Int) : spec_l1In.f n a b = some (inB n a b) := by
  unfold spec_l1In.f inB
  by_cases h : a ≤ n
  · rw [if_pos h]; simp [h]
  · rw [if_neg h]; simp [h]

/-- What has been turned is no longer than it was. -/
def okImpl (l : List S65) : Prop := l.length ≤ 1048576 ∧ ∀ x ∈ l, x.f0.length ≤ 1048576
def okRep (x : S67) : Bool := inB x.f1 0 4
def okSh (s : S65) : Bool := s.f0.all okRep && inB s.f0.length 1 5
def okEnd (l : List S65) (d r : Int) : Bool := inB l.length 1 4 && inB d 0 2 && inB r 0 2
def goodCm (l : List S65) (d r : Int) : Bool := l.all okSh && okEnd l d r
theorem spec_GoodCommit.ev (l : List S65) (d r : Int) (hl : okImpl l) : Ev (fun k => spec_GoodCommit.f k l d r) (goodCm l d r) := by
  obtain ⟨h1, h2⟩ := hl
  unfold spec_GoodCommit.f goodCm
  refine Ev.eq (Ev.up (g := fun k i => spec_GoodCommit.l0 k l (l.length : Int) i l d r) l.length (fun i => (l.drop i).all okSh && okEnd l d r) ?_) (by simp)
  intro i hi ih
  refine Ev.step (fun k => by rw [spec_GoodCommit.l0]) ?_
  by_cases hlt : i < l.length
  · have e : rd_T65 l (i : Int) = l[i] := getD_nat l _ hlt
    have h3 := h2 _ (List.getElem_mem hlt)
    have ih := ih hlt
    rw [e, all_take_succ l okSh hlt]
    refine Ev.pos (by omega) (Ev.pos (by omega) (Ev.pos (by omega) ?_))
    generalize hq : ((l.drop (i + 1)).all okSh && okEnd l d r) = q at ih
    generalize hs : l[i].f0 = s at h3
    have es : (okSh l[i] && (l.drop (i + 1)).all okSh && okEnd l d r) = (((s.drop 0).all okRep && inB s.length 1 5) && ((l.drop (i + 1)).all okSh && okEnd l d r)) := by
      unfold okSh; rw [hs, List.drop_zero, Bool.and_assoc]
    rw [es]
    refine Ev.eq (Ev.up (g := fun k j => spec_GoodCommit.l1 k l (l.length : Int) i s (s.length : Int) j l d r s) s.length (fun j => ((s.drop j).all okRep && inB s.length 1 5) && q) ?_) (by rw [hq])
    intro j hj jh
    refine Ev.step (fun k => by rw [spec_GoodCommit.l1]) ?_
    by_cases hjl : j < s.length
    · have e2 : rd_T67 s (j : Int) = s[j] := getD_nat s _ hjl
      rw [e2, all_take_succ s okRep hjl]
      have jh := jh hjl
      refine Ev.pos (by omega) (Ev.pos (by omega) (Ev.pos (by omega) (Ev.bindS (spec_l1In.ev _ _ _) ?_)))
      rw [w64_succ hjl (by omega)]
      unfold okRep at jh ⊢
      exact Ev.cases (fun h => Ev.eq jh (by rw [h]; rfl)) (fun h => Ev.some (by simp at h; simp [h]))
    · have : j = s.length := by omega
      subst this
      refine Ev.neg (by omega) (Ev.bindS (spec_l1In.ev _ _ _) ?_)
      rw [w64_succ hlt (by omega)]
      exact Ev.cases (fun h => Ev.eq ih (by rw [h]; simp)) (fun h => Ev.some (by simp at h; simp [h]))
  · have : i = l.length := by omega
    subst this
    refine Ev.neg (by omega) (Ev.bindS (spec_l1In.ev _ _ _) ?_)
    simp only [List.drop_length, List.all_nil, Bool.true_and]
    unfold okEnd
    refine Ev.cases (fun h => ?_) (fun h => Ev.some (by simp at h; simp [h]))
    refine Ev.bindS (spec_l1In.ev _ _ _) (Ev.cases (fun h' => ?_) (fun h' => Ev.some (by simp at h'; simp [h'])))
    exact Ev.bindS (spec_l1In.ev _ _ _) (Ev.some (by rw [h, h']; rfl))

def cRep (x : S109) : S67 := ⟨x.f0, x.f1⟩
theorem laws_toReplicaS.ev (l : List S109) (hl : l.length ≤ 1048576) : Ev (fun k => laws_toReplicaS.f k l) (l.map cRep) := by
  unfold laws_toReplicaS.f
  refine Ev.pos (by omega) (Ev.pos (by omega) ?_)
  refine Ev.eq (Ev.up (g := fun k i => laws_toReplicaS.l0 k l ((l.take i.toNat).map cRep ++ List.replicate (l.length - i.toNat) z67) i) l.length (fun _ => l.map cRep) ?_) rfl
  intro i hi ih
  refine Ev.step (fun k => by rw [laws_toReplicaS.l0]) ?_
  by_cases hlt : i < l.length
  · have h2 := ih hlt
    simp only [Int.toNat_natCast] at h2 ⊢
    have e : rd_T109 l (i : Int) = l[i] := getD_nat l _ hlt
    refine Ev.pos (by omega) (Ev.pos (by omega) (Ev.bindS rfl (Ev.pos (by rw [fill_len _ _ _ _ hi]; omega) ?_)))
    rw [e, w64_succ hlt (by omega)]
    refine Ev.congr (fun k => ?_) h2
    rw [← set_fillM cRep l z67 hlt]; rfl
  · have : i = l.length := by omega
    subst this
    refine Ev.neg (by omega) (Ev.some ?_)
    simp only [Int.toNat_natCast]
    exact fill_end _ _ _

theorem laws_toShard.ev (l : List S109) (hl : l.length ≤ 1048576) : Ev (fun k => laws_toShard.f k l) (l.map cRep) := by
  unfold laws_toShard.f
  exact Ev.bind (laws_toReplicaS.ev l hl) (Ev.now _)

def cSh (x : S87) : S65 := ⟨x.f0.map cRep⟩
theorem laws_toShardS.ev (l : List S87) (hl : okShards l) : Ev (fun k => laws_toShardS.f k l) (l.map cSh) := by
  obtain ⟨hl, hx⟩ := hl
  unfold laws_toShardS.f
  refine Ev.pos (by omega) (Ev.pos (by omega) ?_)
  refine Ev.eq (Ev.up (g := fun k i => laws_toShardS.l0 k l ((l.take i.toNat).map cSh ++ List.replicate (l.length - i.toNat) z65) i) l.length (fun _ => l.map cSh) ?_) rfl
  intro i hi ih
  refine Ev.step (fun k => by rw [laws_toShardS.l0]) ?_
  by_cases hlt : i < l.length
  · have h2 := ih hlt
    simp only [Int.toNat_natCast] at h2 ⊢
    have e : rd_T87 l (i : Int) = l[i] := getD_nat l _ hlt
    rw [e, w64_succ hlt (by omega)]
    refine Ev.pos (by omega) (Ev.pos (by omega) (Ev.bind (laws_toShard.ev _ (hx _ (List.getElem_mem hlt))) (Ev.pos (by rw [fill_len _ _ _ _ hi]; omega) ?_)))
    refine Ev.congr (fun k => ?_) h2
    rw [← set_fillM cSh l z65 hlt]; rfl
  · have : i = l.length := by omega
    subst this
    refine Ev.neg (by omega) (Ev.some ?_)
    simp only [Int.toNat_natCast]
    exact fill_end _ _ _

theorem laws_toCommit.ev (l : List S87) (d r : Int) (hl : okShards l) : Ev (fun k => laws_toCommit.f k l d r) (l.map cSh, d, r) := by
  unfold laws_toCommit.f
  exact Ev.bind (laws_toShardS.ev l hl) (Ev.now _)
theorem okImpl_of {l : List S87} (h : okShards l) : okImpl (l.map cSh) := by
  refine ⟨by simpa using h.1, fun x hx => ?_⟩
  obtain ⟨y, hy, rfl⟩ := List.mem_map.1 hx
  simpa [cSh] using h.2 y hy

theorem impl_in.ev (n a b : Int) : impl_in.f n a b = some (inB n a b) := by
  unfold impl_in.f inB
  by_cases h : a ≤ n
  · rw [if_pos h]; simp [h]
  · rw [if_neg h]; simp [h]

theorem impl_isCommit_1_1.ev (x : S67) : impl_isCommit_1_1.f x.f0 x.f1 = some (!okRep x) := by
  unfold impl_isCommit_1_1.f; rw [impl_in.ev]; rfl

theorem any_not_all {α : Type} (p : α → Bool) (l : List α) : l.any (fun x => !p x) = !(l.all p) := by
  induction l with
  | nil => rfl
  | cons x r ih => simp [ih]
theorem has_impl_isCommit_1_1.ev (l : List S67) : has_impl_isCommit_1_1.f l = some (!(l.all okRep)) := by
  unfold has_impl_isCommit_1_1.f
  rw [← any_not_all]
  exact idxO_any (fun x _ => impl_isCommit_1_1.ev x)

theorem impl_isCommit_1.ev (s : S65) : impl_isCommit_1.f s.f0 = some (!okSh s) := by
  unfold impl_isCommit_1.f okSh
  rw [impl_in.ev]
  simp only [Option.bind_some]
  cases inB (s.f0.length : Int) 1 5 with
  | false => simp
  | true => rw [if_pos rfl, has_impl_isCommit_1_1.ev]; simp

theorem has_impl_isCommit_1.ev (l : List S65) : has_impl_isCommit_1.f l = some (!(l.all okSh)) := by
  unfold has_impl_isCommit_1.f
  rw [← any_not_all]
  exact idxO_any (fun x _ => impl_isCommit_1.ev x)

theorem impl_isCommit.ev (l : List S65) (d r : Int) : impl_isCommit.f l d r = some (goodCm l d r) := by
  unfold impl_isCommit.f goodCm okEnd
  rw [impl_in.ev]; simp only [Option.bind_some]
  cases inB (l.length : Int) 1 4 with
  | false => simp
  | true =>
    rw [if_pos rfl, impl_in.ev]; simp only [Option.bind_some]
    cases inB d 0 2 with
    | false => simp
    | true =>
      rw [if_pos rfl, impl_in.ev]; simp only [Option.bind_some]
      cases inB r 0 2 with
      | false => simp
      | true => rw [if_pos rfl, has_impl_isCommit_1.ev]; simp

theorem laws_eqReplicaS.refl (x : List S67) (hx : x.length ≤ 9223372036854775807) : Ev (fun k => laws_eqReplicaS.f k x x) true := by
  unfold laws_eqReplicaS.f
  refine Ev.pos rfl (Ev.eq (Ev.up (g := fun k i => laws_eqReplicaS.l0 k x x i) x.length (fun _ => true) ?_) rfl)
  intro i hi ih
  refine Ev.step (fun k => by rw [laws_eqReplicaS.l0]) ?_
  by_cases hlt : i < x.length
  · refine Ev.pos (by omega) (Ev.pos (by omega) (Ev.pos (by omega) (Ev.bindS (a := true) ?_ (Ev.pos rfl ?_))))
    · unfold laws_eqReplica.f; simp
    · rw [w64_succ hlt hx]; exact ih hlt
  · exact Ev.neg (by omega) (Ev.now _)

theorem laws_eqShard.refl (x : List S67) (hx : x.length ≤ 9223372036854775807) : Ev (fun k => laws_eqShard.f k x x) true := by
  unfold laws_eqShard.f
  exact Ev.bind (laws_eqReplicaS.refl x hx) (Ev.pos rfl (Ev.now _))

theorem laws_eqShardS.refl (x : List S65) (hx : okImpl x) : Ev (fun k => laws_eqShardS.f k x x) true := by
  obtain ⟨h1, h2⟩ := hx
  unfold laws_eqShardS.f
  refine Ev.pos rfl (Ev.eq (Ev.up (g := fun k i => laws_eqShardS.l0 k x x i) x.length (fun _ => true) ?_) rfl)
  intro i hi ih
  refine Ev.step (fun k => by rw [laws_eqShardS.l0]) ?_
  by_cases hlt : i < x.length
  · have e : rd_T65 x (i : Int) = x[i] := getD_nat x _ hlt
    rw [e, w64_succ hlt (by omega)]
    have h3 := h2 _ (List.getElem_mem hlt)
    exact Ev.pos (by omega) (Ev.pos (by omega) (Ev.pos (by omega) (Ev.bind (laws_eqShard.refl _ (by omega)) (Ev.pos rfl (ih hlt)))))
  · exact Ev.neg (by omega) (Ev.now _)

theorem laws_eqCommit.refl (x : List S65) (d r : Int) (hx : okImpl x) : Ev (fun k => laws_eqCommit.f k x d r x d r) true := by
  unfold laws_eqCommit.f
  exact Ev.bind (laws_eqShardS.refl x hx) (Ev.pos rfl (Ev.pos rfl (Ev.pos rfl (Ev.now _))))

def decC (d r : Int) : Int := if d = 0 then r else d
theorem spec_l15Decision.ev (l : List S65) (d r : Int) : spec_l15Decision.f l d r = some (decC d r) := by
  unfold spec_l15Decision.f decC; split <;> rfl

theorem impl_Commit_decision.ev (l : List S65) (d r : Int) : impl_Commit_decision.f l d r = some (decC d r) := by
  unfold impl_Commit_decision.f decC; split <;> rfl

def okHas (c : Int) (x : S67) : Bool := x.f0 || ((!decide (x.f1 = 3) || decide (c = 1)) && (!decide (x.f1 = 4) || decide (c = 2)))
def agreesC (l : List S65) (d r : Int) : Bool × Bool :=
  if goodCm l d r then (if d ≠ 0 ∧ r ≠ 0 ∧ d ≠ r then (false, true) else (l.all (fun s => s.f0.all (okHas (decC d r))), true)) else (false, false)
theorem spec_AgreesIn.inner (c : Int) (l : List S65) (hl : okImpl l) : Ev (fun k => spec_AgreesIn.l0 k c l (l.length : Int) 0) (l.all (fun s => s.f0.all (okHas c)), true) := by
  obtain ⟨h1, h2⟩ := hl
  refine Ev.eq (Ev.up (g := fun k i => spec_AgreesIn.l0 k c l (l.length : Int) i) l.length (fun i => ((l.drop i).all (fun s => s.f0.all (okHas c)), true)) ?_) (by simp)
  intro i hi ih
  refine Ev.step (fun k => by rw [spec_AgreesIn.l0]) ?_
  by_cases hlt : i < l.length
  · have e : rd_T65 l (i : Int) = l[i] := getD_nat l _ hlt
    have h3 := h2 _ (List.getElem_mem hlt)
    have ih := ih hlt
    rw [e, all_take_succ l _ hlt]
    refine Ev.pos (by omega) (Ev.pos (by omega) (Ev.pos (by omega) ?_))
    generalize (l.drop (i + 1)).all (fun s => s.f0.all (okHas c)) = q at ih ⊢
    generalize l[i].f0 = s at h3 ⊢
    refine Ev.eq (Ev.up (g := fun k j => spec_AgreesIn.l1 k c l (l.length : Int) i s (s.length : Int) j) s.length (fun j => ((s.drop j).all (okHas c) && q, true)) ?_) (by simp)
    intro j hj jh
    refine Ev.step (fun k => by rw [spec_AgreesIn.l1]) ?_
    by_cases hjl : j < s.length
    · have e2 : rd_T67 s (j : Int) = s[j] := getD_nat s _ hjl
      have jh := jh hjl
      rw [e2, all_take_succ s (okHas c) hjl, w64_succ hjl (by omega)]
      refine Ev.pos (by omega) (Ev.pos (by omega) (Ev.pos (by omega) ?_))
      generalize (s.drop (j + 1)).all (okHas c) = p at jh ⊢
      unfold okHas
      refine Ev.cases (fun h => Ev.eq jh (by rw [h]; simp)) (fun h => ?_)
      rw [Bool.eq_false_iff.2 h]
      refine Ev.cases (fun h3 => Ev.cases (fun h4 => Ev.cases (fun h5 => ?_) (fun h5 => Ev.eq jh ?_)) (fun h4 => Ev.some ?_)) (fun h3 => Ev.cases (fun h5 => Ev.cases (fun h6 => Ev.eq jh ?_) (fun h6 => Ev.some ?_)) (fun h5 => Ev.eq jh ?_))
      · omega
      · simp [h3, h4]
      · simp [h3, h4]
      · simp [h5, h6]
      · simp [h5, h6]
      · simp [h3, h5]
    · have : j = s.length := by omega
      subst this
      refine Ev.neg (by omega) ?_
      rw [w64_succ hlt (by omega)]
      exact Ev.eq ih (by simp)
  · have : i = l.length := by omega
    subst this
    exact Ev.neg (by omega) (Ev.some (by simp))
theorem spec_AgreesIn.ev (l : List S65) (d r : Int) (hl : okImpl l) : Ev (fun k => spec_AgreesIn.f k l d r) (agreesC l d r) := by
  unfold spec_AgreesIn.f agreesC
  refine Ev.bind (spec_GoodCommit.ev l d r hl) (Ev.cases (fun h => ?_) (fun h => Ev.some (by rw [if_neg h])))
  rw [if_pos h]
  have hin := spec_AgreesIn.inner (decC d r) l hl
  have hf : Ev (fun k => spec_AgreesIn.j0 k false l d r) (l.all (fun s => s.f0.all (okHas (decC d r))), true) := Ev.step (fun k => by rw [spec_AgreesIn.j0]) (Ev.neg (by simp) (Ev.bindS (spec_l15Decision.ev l d r) hin))
  have ht : Ev (fun k => spec_AgreesIn.j0 k true l d r) (false, true) := Ev.step (fun k => by rw [spec_AgreesIn.j0]) (Ev.pos rfl (Ev.now _))
  refine Ev.cases (fun h1 => Ev.eq hf ?_) (fun h1 => Ev.cases (fun h2 => Ev.eq hf ?_) (fun h2 => ?_))
  · rw [if_neg (by omega)]
  · rw [if_neg (by omega)]
  · by_cases h3 : d = r
    · rw [if_neg (by omega)]
      have e : (d != r) = false := by simp [h3]
      rw [e]; exact hf
    · rw [if_pos ⟨h1, h2, h3⟩]
      have e : (d != r) = true := by simp [h3]
      rw [e]; exact ht

theorem impl_AgreesIn.inner (d r : Int) (l : List S65) (hl : okImpl l) : Ev (fun k => impl_AgreesIn.l0 k l (l.length : Int) 0 l d r) (l.all (fun s => s.f0.all (okHas (decC d r))), true) := by
  obtain ⟨h1, h2⟩ := hl
  generalize hc : decC d r = c
  have hcd : impl_Commit_decision.f l d r = some c := by rw [impl_Commit_decision.ev, hc]
  refine Ev.eq (Ev.up (g := fun k i => impl_AgreesIn.l0 k l (l.length : Int) i l d r) l.length (fun i => ((l.drop i).all (fun s => s.f0.all (okHas c)), true)) ?_) (by simp)
  intro i hi ih
  refine Ev.step (fun k => by rw [impl_AgreesIn.l0]) ?_
  by_cases hlt : i < l.length
  · have e : rd_T65 l (i : Int) = l[i] := getD_nat l _ hlt
    have h3 := h2 _ (List.getElem_mem hlt)
    have ih := ih hlt
    rw [e, all_take_succ l _ hlt]
    refine Ev.pos (by omega) (Ev.pos (by omega) (Ev.pos (by omega) ?_))
    generalize (l.drop (i + 1)).all (fun s => s.f0.all (okHas c)) = q at ih ⊢
    generalize l[i].f0 = s at h3 ⊢
    refine Ev.eq (Ev.up (g := fun k j => impl_AgreesIn.l1 k l (l.length : Int) i s (s.length : Int) j l d r) s.length (fun j => ((s.drop j).all (okHas c) && q, true)) ?_) (by simp)
    intro j hj jh
    refine Ev.step (fun k => by rw [impl_AgreesIn.l1]) ?_
    by_cases hjl : j < s.length
    · have e2 : rd_T67 s (j : Int) = s[j] := getD_nat s _ hjl
      have jh := jh hjl
      rw [e2, all_take_succ s (okHas c) hjl, w64_succ hjl (by omega), hcd]
      simp only [Option.bind_some]
      refine Ev.pos (by omega) (Ev.pos (by omega) (Ev.pos (by omega) ?_))
      generalize (s.drop (j + 1)).all (okHas c) = p at jh ⊢
      unfold okHas
      refine Ev.cases (fun h => Ev.eq jh (by rw [h]; simp)) (fun h => ?_)
      rw [Bool.eq_false_iff.2 h]
      refine Ev.cases (fun h3 => Ev.cases (fun h4 => Ev.cases (fun h5 => ?_) (fun h5 => Ev.eq jh ?_)) (fun h4 => Ev.some ?_)) (fun h3 => Ev.cases (fun h5 => Ev.cases (fun h6 => Ev.eq jh ?_) (fun h6 => Ev.some ?_)) (fun h5 => Ev.eq jh ?_))
      · omega
      · simp [h3, h4]
      · simp [h3, h4]
      · simp [h5, h6]
      · simp [h5, h6]
      · simp [h3, h5]
    · have : j = s.length := by omega
      subst this
      refine Ev.neg (by omega) ?_
      rw [w64_succ hlt (by omega)]
      exact Ev.eq ih (by simp)
  · have : i = l.length := by omega
    subst this
    exact Ev.neg (by omega) (Ev.some (by simp))
theorem impl_AgreesIn.ev (l : List S65) (d r : Int) (hl : okImpl l) : Ev (fun k => impl_AgreesIn.f k l d r) (agreesC l d r) := by
  unfold impl_AgreesIn.f agreesC
  refine Ev.bindS (impl_isCommit.ev l d r) (Ev.cases (fun h => ?_) (fun h => Ev.some (by rw [if_neg h])))
  rw [if_pos h]
  have hin := impl_AgreesIn.inner d r l hl
  have hf : Ev (fun k => impl_AgreesIn.j0 k false l d r) (l.all (fun s => s.f0.all (okHas (decC d r))), true) := Ev.step (fun k => by rw [impl_AgreesIn.j0]) (Ev.neg (by simp) hin)
  have ht : Ev (fun k => impl_AgreesIn.j0 k true l d r) (false, true) := Ev.step (fun k => by rw [impl_AgreesIn.j0]) (Ev.pos rfl (Ev.now _))
  refine Ev.cases (fun h1 => Ev.eq hf ?_) (fun h1 => Ev.cases (fun h2 => Ev.eq hf ?_) (fun h2 => ?_))
  · rw [if_neg (by omega)]
  · rw [if_neg (by omega)]
  · by_cases h3 : d = r
    · rw [if_neg (by omega)]
      have e : (d != r) = false := by simp [h3]
      rw [e]; exact hf
    · rw [if_pos ⟨h1, h2, h3⟩]
      have e : (d != r) = true := by simp [h3]
      rw [e]; exact ht

theorem holds_ev (l : List S87) (d r : Int) (hl : l.length ≤ 9223372036854775807) (hx : ∀ x ∈ l, x.f0.length ≤ 9223372036854775807) : Ev (fun k => laws_FnExactAgreesIn.f k l d r) true := by
  obtain ⟨q, hq, hsz⟩ := laws_szCommit.ev l d r 1048576 (by omega) (by omega) hl hx
  unfold laws_FnExactAgreesIn.f
  refine Ev.bind hq (Ev.cases (fun _ => Ev.now _) (fun hn => ?_))
  have ok := hsz (by omega)
  have tt := laws_toCommit.ev l d r ok
  have ok2 := okImpl_of ok
  refine Ev.bind tt (Ev.bind (spec_AgreesIn.ev _ _ _ ok2) (Ev.bind tt (Ev.bind (impl_AgreesIn.ev _ _ _ ok2) ?_)))
  refine Ev.neg (by simp) (Ev.step (fun k => by rw [laws_FnExactAgreesIn.j0]) (Ev.neg (by simp) ?_))
  exact Ev.bind tt (Ev.bind (laws_eqCommit.refl _ _ _ ok2) (Ev.pos rfl (Ev.now _)))

end Go.Proofs.Ytniaodllgeloiaa.PK
namespace Go.Proofs.Ytniaodllgeloiaa.PureFnExactAgreesIn
open Go.RowKit Go.Proofs.Ytniaodllgeloiaa.PK Go.Proofs.Ytniaodllgeloiaa.Base Go.Proofs.Ytniaodllgeloiaa.Open Go.Proofs.YtniaodllgeloiaaW.PrintWords Go.Proofs.YtniaodllgeloiaaW.PrintLast
theorem holds (l0_0 : List S87) (a0_1 : Int) (a0_2 : Int) (w0 : ((l0_0.length ≤ 9223372036854775807 ∧ ∀ z ∈ l0_0, W87 z) ∧ (Lit.int .i64 a0_1).wf = true ∧ (Lit.int .i64 a0_2).wf = true)) : ∃ k, Go.Proofs.Ytniaodllgeloiaa.PK.laws_FnExactAgreesIn.f k l0_0 a0_1 a0_2 = some true := by
  exact (holds_ev _ _ _ w0.1.1 (fun x hx => (w0.1.2 x hx).1)).rounds
end Go.Proofs.Ytniaodllgeloiaa.PureFnExactAgreesIn
