/- What this text proves: the machine calls of these functions return what the plain functions say. Conditions: as each theorem says. Printed by a program of this session out of the translation. -/
import Derived.Test.YthbollaceiffpaaPMOx0
import Derived.Test.YthbollaceiffpaaPMOx5
import Derived.Shelf.SlicesE.DeleteFunc
namespace Go.Proofs.Ythbollaceiffpaa.PMO
open Go.RowKit Go.Proofs.YthbollaceiffpaaW.PrintWords Go.Proofs.YthbollaceiffpaaW.PrintLast Go.Proofs.YthbollaceiffpaaW.PrintMore
attribute [local go_sem] max2_int min2_int max_two min_two max_three min_three max_four min_four   -- for this text's walks alone
set_option linter.unusedVariables false
set_option linter.unusedSimpArgs false

/-! ### impl_meet: function 57 -/
theorem own_int_R {e : Nat} {w : World} {base : Nat} {ok : Nat → Prop} {v : Value} {xs : List Int} (h : Kd.R (Kd.int .i64) e w base ok v xs) : w.ownsRow base e 1 v xs.length (encs (Value.int .i64) xs) := Kd.own_of_R (h1 := fun _ => rfl) h
theorem R_of_own_int {e : Nat} {w : World} {base : Nat} {ok : Nat → Prop} {v : Value} {xs : List Int} (ho : w.ownsRow base e 1 v xs.length (encs (Value.int .i64) xs)) (hok : ∀ k, v.ownBlock = some k → ok k) : Kd.R (Kd.int .i64) e w base ok v xs := Kd.R_of_own (h1 := fun _ => rfl) ho hok
/-- A row of one's own whose cells are put anew, cut to its first places. -/
theorem own_putRow {w : World} {base n cap g e : Nat} {xs : List Int} (h : w.ownsRow base e 1 (.slice (some ⟨g, 0, none⟩) n cap) n (encs (Value.int .i64) xs)) (d : Array Int) (hd : d.size = n) (m : Nat) (hm : m ≤ n) (q : Nat) :
    (Go.Sort.putRow (Value.int .i64) (Go.Sort.ahead w q) g 0 d).ownsRow base e 1 (.slice (some ⟨g, 0, none⟩) m cap) m (encs (Value.int .i64) (d.toList.take m)) := by
  rcases h.2 with ⟨h1, _⟩ | ⟨g', cap', cur, h1, hb, hh, hn, hc, hs, ht⟩
  · injection h1 with h1; cases h1
  · injection h1 with h1 _ h3
    injection h1 with h1; injection h1 with h1
    subst h1; subst h3
    refine ⟨by simp [encs]; omega, .inr ⟨g, cap, Go.Sort.putCells (Value.int .i64) 0 d cur, rfl, hb, ?_, by omega, hc, ?_, ?_⟩⟩
    · show (w.heap.modify g (Go.Sort.onCells (Go.Sort.putCells (Value.int .i64) 0 d)))[g]? = _
      simp [Array.getElem?_modify, hh, Go.Sort.onCells]
    · simpa [Go.Sort.putCells] using hs
    · apply List.ext_getElem?
      intro j
      by_cases hj : j < m
      · have hjc : j < cur.size := by omega
        have hjd : j < d.size := by omega
        simp [encs, Go.Sort.putCells, List.getElem?_take, hj, hjc, hjd]
      · simp [encs, List.getElem?_take, hj]
theorem grown_putRow (w : World) (g q : Nat) (d : Array Int) : w.grownBy (Go.Sort.putRow (Value.int .i64) (Go.Sort.ahead w q) g 0 d) (some g) :=
  ⟨rfl, rfl, rfl, by simp, fun k _ hk => by
    show (w.heap.modify g (Go.Sort.onCells (Go.Sort.putCells (Value.int .i64) 0 d)))[k]? = _
    rw [Array.getElem?_modify, if_neg (fun e => hk (by rw [e]))]⟩
theorem slices_Index_int_int.all (l : List Int) (x : Int) (hl : l.length ≤ 1048576) : ∃ k r, slices_Index_int_int.f k l x = some r ∧ (decide (r ≥ 0)) = l.contains x := by
  have key : ∀ d i : Nat, i + d = l.length → ∃ k r, slices_Index_int_int.l0 k l x (l.length : Int) (i : Int) = some r ∧ (decide (r ≥ 0)) = (l.drop i).contains x := by
    intro d
    induction d with
    | zero =>
      intro i hi
      refine ⟨1, -1, by rw [slices_Index_int_int.l0, if_neg (by omega)], ?_⟩
      rw [List.drop_of_length_le (by omega)]; rfl
    | succ d ih =>
      intro i hi
      have hlt : i < l.length := by omega
      obtain ⟨k, r, hk, hr⟩ := ih (i + 1) (by omega)
      have e : rd l (i : Int) = l[i] := by simp [rd, hlt]
      have ew : wrap64 ((i : Int) + 1) = ((i + 1 : Nat) : Int) := by unfold wrap64; omega
      rw [List.drop_eq_getElem_cons hlt, List.contains_cons]
      by_cases c : x = l[i]
      · refine ⟨k + 1, (i : Int), by rw [slices_Index_int_int.l0, if_pos (by omega), if_pos (by omega), if_pos (by omega), e, if_pos c], ?_⟩
        have : (x == l[i]) = true := by simpa using c
        rw [this, Bool.true_or]; exact decide_eq_true (by omega)
      · refine ⟨k + 1, r, by rw [slices_Index_int_int.l0, if_pos (by omega), if_pos (by omega), if_pos (by omega), e, if_neg c, ew]; exact hk, ?_⟩
        have : (x == l[i]) = false := by simpa using c
        rw [this, Bool.false_or]; exact hr
  exact key l.length 0 (by omega)
theorem slices_Contains_int_int.all (l : List Int) (x : Int) (hl : l.length ≤ 1048576) : ∃ k, slices_Contains_int_int.f k l x = some (l.contains x) := by
  obtain ⟨k, r, hk, hr⟩ := slices_Index_int_int.all l x hl
  exact ⟨k, by unfold slices_Contains_int_int.f; rw [hk]; simp only [Option.bind_some]; rw [hr]⟩
/-- The closure: whatever its block's row has, it says no to. -/
theorem impl_meet_1.gives (A : Option Addr) (c : Nat) (l : List Int) (g : Nat) (x : Int) (W : World) (hb : W.heap[g]? = some (.cells #[.slice A l.length c] 28 (0, 0))) (hr : Kd.C (Kd.int .i64) W A l.length l) (hc : l.length ≤ c) (hl : l.length ≤ 1048576) :
    FnGives Try.prog 73 #[.pointer (some ⟨g, 0, none⟩)] #[.int .i64 x] (.bool (!l.contains x)) W := by
  show Calls Try.prog 73 #[.int .i64 x, .pointer (some ⟨g, 0, none⟩)] W _
  have hu28 := Try.underlying28
  have hcell : W.cell? ⟨g, 0, none⟩ = some (.slice A l.length c) := (blk_cell hb 0).trans rfl
  obtain ⟨k, hk⟩ := slices_Contains_int_int.all l x hl
  have hr' := Aside0.mk hr
  have hc' := Aside0.mk hc
  clear hr hc hb hl
  generalize hbb : l.contains x = bb at hk ⊢
  have hk' := Aside0.mk hk
  clear hk hbb
  go_enter Try.func73, Try.ntmps73
  go_wp2_with (go_at_call 74; refine (slices_Contains_int_int.calls k A c l x _ _ ?s1 hc'.out hk'.out).mono ?_; (case s1 => repeat (first | exact hr'.out | (with_reducible refine Kd.C_alloc ?_ _) | (with_reducible refine Kd.C_drewN ?_ _) | (with_reducible refine Kd.C_drew ?_))); rintro e w' ⟨rfl, ⟨nd, rfl⟩⟩)
  go_ret
  exact ⟨rfl, _, rfl⟩
def meet_ren : Go.Shelf.Ren := ⟨fun | 6 => 80 | 10 => 72 | n => n, fun | 23 => 3 | 25 => 78 | n => n, fun n => n⟩
theorem meet_lays : SlLaysH.n10 Try.prog meet_ren := {
  mixed := by kernel_rfl
  f6 := ⟨Try.f80.name, by decide, Try.func80.trans (congrArg some (by kernel_rfl))⟩
  f10 := ⟨Try.f72.name, by decide, Try.func72.trans (congrArg some (by kernel_rfl))⟩
  t0 := Try.underlying0
  a0 := Try.isAgg0
  z0 := Try.sizeOf0
  v0 := Try.zeroValue0
  t3 := Try.underlying3
  a3 := Try.isAgg3
  z3 := Try.sizeOf3
  v3 := Try.zeroValue3
  t4 := Try.underlying4
  a4 := Try.isAgg4
  z4 := Try.sizeOf4
  v4 := Try.zeroValue4
  t22 := Try.underlying22
  a22 := Try.isAgg22
  z22 := Try.sizeOf22
  v22 := Try.zeroValue22
  a23 := Try.isAgg3
  z23 := Try.sizeOf3
  t25 := Try.underlying78
  a25 := Try.isAgg78
  z25 := Try.sizeOf78
  v25 := Try.zeroValue78 }
theorem fits_holds {w : World} {base n cap g e : Nat} {xs : List Int} (h : w.ownsRow base e 1 (.slice (some ⟨g, 0, none⟩) n cap) n (encs (Value.int .i64) xs)) (hn : xs.length = n) : Go.Sort.Holds (Value.int .i64) w g 0 xs.toArray := by
  rcases h.2 with ⟨h1, _⟩ | ⟨g', cap', cur, h1, hb, hh, hn', hc, hs, ht⟩
  · injection h1 with h1; cases h1
  · injection h1 with h1 _ h3
    injection h1 with h1; injection h1 with h1
    subst h1; subst h3
    intro j hj
    have hj' : j < xs.length := by simpa using hj
    refine ⟨?_, blk_frozen hh _⟩
    rw [blk_cell hh]
    have : (encs (Value.int .i64) xs)[j]? = some (Value.int .i64 xs[j]) := by simp [encs, hj']
    rw [← ht, List.getElem?_take, if_pos (by omega)] at this
    rw [Nat.zero_add, ← Array.getElem?_toList, this]
    simp [hj']
/-- slices.DeleteFunc with the closure, on a row of one's own. -/
theorem impl_meet_del {v : Value} {ys : List Int} {w0 W : World} {ok : Nat → Prop} (ho : Kd.R (Kd.int .i64) 3 W w0.heap.size ok v ys) (hys : ys ≠ []) (hn : ys.length ≤ 1048576)
    {A : Option Addr} {c : Nat} {l : List Int} {g : Nat} (hb : W.heap[g]? = some (.cells #[.slice A l.length c] 28 (0, 0))) (hr : Kd.C (Kd.int .i64) W A l.length l) (hfar : ∀ W1 : World, W.grownBy W1 v.ownBlock → Kd.C (Kd.int .i64) W1 A l.length l) (hc : l.length ≤ c) (hl : l.length ≤ 1048576) :
    Calls Try.prog 72 #[v, .func (.func 73) #[] #[.pointer (some ⟨g, 0, none⟩)]] W fun e w' => ∃ v', e = .returned v' ∧ Kd.R (Kd.int .i64) 3 w' w0.heap.size ok v' (ys.filter fun x => l.contains x) ∧ v'.ownBlock = v.ownBlock ∧ W.grownBy w' v.ownBlock := by
  have hne : some g ≠ v.ownBlock := Kd.R_ne ho hb (by decide)
  have hok := ho.1
  have own := own_int_R ho
  obtain ⟨b, cap, rfl, hcap, hlt⟩ : ∃ b cap, v = .slice (some ⟨b, 0, none⟩) ys.length cap ∧ ys.length ≤ cap ∧ b < W.heap.size := by
    rcases own.2 with ⟨_, h2⟩ | ⟨g', cap', cur, h1, _, hh, hn', _⟩
    · exact absurd (List.eq_nil_of_length_eq_zero h2) hys
    · exact ⟨g', cap', h1, hn', blk_lt hh⟩
  have hne' : g ≠ b := fun e => hne (by rw [e]; rfl)
  have eg : ∀ args w, (callFunc 73 args).run Try.prog w = .ok (.enter 73 args) w := enters_of Try.func73 (by kernel_rfl) rfl
  have hP : PredAt Try.prog 73 #[.pointer (some ⟨g, 0, none⟩)] (Value.int .i64) (fun x => !l.contains x) W :=
    fun W1 x hB => impl_meet_1.gives A c l g x W1 (blk_below hb hB) (Kd.C_below hr hB) hc hl
  have hO : PredOver Try.prog 73 #[.pointer (some ⟨g, 0, none⟩)] (Value.int .i64) (fun x => !l.contains x) b 0 ys.toArray.size W := by
    intro n os dk x hdk
    have hg1 : W.grownBy (sortWorld (Value.int .i64) W b 0 n dk os) (some b) := by
      have h1 := grown_putRow W b n dk
      refine ⟨h1.os, h1.tape, h1.output, ?_, fun k hk hne => ?_⟩
      · show W.heap.size ≤ (_ ++ os).size; rw [Array.size_append]; have := h1.size; omega
      · rw [← h1.block k hk hne]
        show ((Go.Sort.putRow (Value.int .i64) (Go.Sort.ahead W n) b 0 dk).heap ++ os)[k]? = _
        rw [Array.getElem?_append_left (by have := h1.size; omega)]
    exact impl_meet_1.gives A c l g x _ (blk_grown hb hg1 (fun e => hne' (Option.some.inj e))) (hfar _ hg1) hc hl
  have hcon := AnyE.slices_DeleteFunc meet_lays (Value.int .i64) (fun _ => rfl) (fun x => !l.contains x) 73 #[.pointer (some ⟨g, 0, none⟩)] eg 0 Try.zeroValue3 b 0 cap ys.toArray W hP hO (fits_holds own rfl) (by simp; omega) (by simpa using hcap)
  have hf : (ys.toArray.toList.filter fun x => !!l.contains x) = ys.filter fun x => l.contains x := by simp
  rw [hf] at hcon
  simp only [List.size_toArray] at hcon
  have hfl := List.length_filter_le (fun x => l.contains x) ys
  refine hcon.mono ?_
  rintro e w' ⟨rfl, q, rfl⟩
  refine ⟨_, rfl, ?_, rfl, grown_putRow _ _ _ _⟩
  have h1 := own_putRow own ((ys.filter fun x => l.contains x) ++ List.replicate (ys.length - (ys.filter fun x => l.contains x).length) 0).toArray (by simp only [List.size_toArray, List.length_append, List.length_replicate]; omega) (ys.filter fun x => l.contains x).length hfl q
  rw [List.take_left'  rfl] at h1
  exact R_of_own_int h1 (fun k hk => hok k hk)
/-- .. on an empty row. -/
theorem impl_meet_del0 {v : Value} {w0 W : World} {ok : Nat → Prop} (ho : Kd.R (Kd.int .i64) 3 W w0.heap.size ok v []) (g : Nat) :
    Calls Try.prog 72 #[v, .func (.func 73) #[] #[.pointer (some ⟨g, 0, none⟩)]] W fun e w' => ∃ v', e = .returned v' ∧ Kd.R (Kd.int .i64) 3 w' w0.heap.size ok v' [] ∧ v'.ownBlock = v.ownBlock ∧ W.grownBy w' v.ownBlock := by
  have eg : ∀ args w, (callFunc 73 args).run Try.prog w = .ok (.enter 73 args) w := enters_of Try.func73 (by kernel_rfl) rfl
  obtain ⟨A, c, rfl⟩ := Kd.R_slice ho
  have ho' := Aside0.mk ho
  clear ho
  have hI := fun W1 hr => idxT3.any 73 #[.pointer (some ⟨g, 0, none⟩)] eg (fun _ => none) A c [] (-1) W1 (fun _ _ _ h => by cases h) hr rfl
  have hI' := Aside0.mk hI
  clear hI eg
  simp only [List.length_nil] at ho' hI' ⊢
  go_enter Try.func72, Try.ntmps72
  go_wp2_with (go_at_call 80; refine (hI'.out _ ?s1).mono ?_; (case s1 => exact (Kd.R_reads' (by exact kr_ (ho'.out))).2.2); rintro e w' ⟨rfl, ⟨nd, rfl⟩⟩)
  go_ret
  exact ⟨_, rfl, by exact kr_ (ho'.out), rfl, ⟨rfl, rfl, rfl, Nat.le_refl _, fun _ _ _ => rfl⟩⟩
/-- .. on any row. -/
theorem impl_meet_delA {v : Value} {ys : List Int} {w0 W : World} {ok : Nat → Prop} (ho : Kd.R (Kd.int .i64) 3 W w0.heap.size ok v ys) (hn : ys.length ≤ 1048576)
    {A : Option Addr} {c : Nat} {l : List Int} {g : Nat} (hb : W.heap[g]? = some (.cells #[.slice A l.length c] 28 (0, 0))) (hr : Kd.C (Kd.int .i64) W A l.length l) (hfar : ∀ W1 : World, W.grownBy W1 v.ownBlock → Kd.C (Kd.int .i64) W1 A l.length l) (hc : l.length ≤ c) (hl : l.length ≤ 1048576) :
    Calls Try.prog 72 #[v, .func (.func 73) #[] #[.pointer (some ⟨g, 0, none⟩)]] W fun e w' => ∃ v', e = .returned v' ∧ Kd.R (Kd.int .i64) 3 w' w0.heap.size ok v' (ys.filter fun x => l.contains x) ∧ v'.ownBlock = v.ownBlock ∧ W.grownBy w' v.ownBlock := by
  by_cases h : ys = []
  · subst h; exact impl_meet_del0 ho g
  · exact impl_meet_del ho h hn hb hr hfar hc hl
def impl_meet.f (l0_0 : List Int) (l1_0 : List Int) : Option (List Int) := if l0_0.length ≤ 1048576 ∧ l1_0.length ≤ 1048576 then some (l0_0.filter fun x => l1_0.contains x) else none
set_option maxHeartbeats 8000000 in
set_option maxRecDepth 100000 in
theorem impl_meet.calls (A0_0 : Option Addr) (c0_0 : Nat) (l0_0 : List Int) (A1_0 : Option Addr) (c1_0 : Nat) (l1_0 : List Int) (r : List Int) (w : World) (hr0_0 : Kd.C (Kd.int .i64) w A0_0 l0_0.length l0_0) (hc0_0 : l0_0.length ≤ c0_0) (hr1_0 : Kd.C (Kd.int .i64) w A1_0 l1_0.length l1_0) (hc1_0 : l1_0.length ≤ c1_0) (h : impl_meet.f l0_0 l1_0 = some r) :
  Calls Try.prog 57 #[.agg #[.slice A0_0 l0_0.length c0_0], .agg #[.slice A1_0 l1_0.length c1_0]] w fun e w' => ∃ v0_ : Value, e = .returned (.agg #[v0_]) ∧ Kd.R (Kd.int .i64) 3 w' w.heap.size (fun _ => True) v0_ r ∧ Below w.heap.size w w' := by
 have hu28 := Try.underlying28
 have HR0_0 := Aside0.mk hr0_0
 have HC0_0 := Aside0.mk hc0_0
 clear hr0_0 hc0_0
 have HR1_0 := Aside0.mk hr1_0
 have HC1_0 := Aside0.mk hc1_0
 clear hr1_0 hc1_0
 have HB := Aside0.mk (Below.refl w.heap.size w)
 obtain ⟨hA, hL, hE⟩ : l0_0.length ≤ 1048576 ∧ l1_0.length ≤ 1048576 ∧ r = l0_0.filter (fun x => l1_0.contains x) := by
  unfold impl_meet.f at h
  split at h
  · rename_i g; exact ⟨g.1, g.2, (Option.some.inj h).symm⟩
  · cases h
 clear h
 obtain ⟨y130, hy130⟩ : ∃ y_ : List Int, y_ = (([] : List Int)) := ⟨_, rfl⟩
 have c3 : y130.length + l0_0.length < 17592186044416 := by rw [hy130]; simp only [List.length_nil]; omega
 obtain ⟨y133, hy133⟩ : ∃ y_ : List Int, y_ = (y130 ++ l0_0) := ⟨_, rfl⟩
 have hY : y133 = l0_0 := by rw [hy133, hy130]; rfl
 have NE := Aside0.mk (show y133.filter (fun x => l1_0.contains x) = r by rw [hE, hY])
 have NA := Aside0.mk (show y133.length ≤ 1048576 by rw [hY]; exact hA)
 have NL := Aside0.mk hL
 have LMc3 := Aside0.mk c3
 have Ny130 := Aside0.mk hy130
 have Ny133 := Aside0.mk hy133
 clear hE hY hA hL c3 hy130 hy133
 go_enter Try.func57, Try.ntmps57
 go_wp2_with (first | ((with_reducible refine gate_dst (N := 2) rfl ?_); refine box_event rfl (N := 2) rfl (cs := #[.slice A0_0 l0_0.length c0_0]) (t := 28) gs_ ?_; intro gb127 hg w4 hbox hb; have BK127 := Aside0.mk (hbox); have GW127 := Aside0.mk ((by rw [hg]; exact bz_ : w.heap.size ≤ gb127)); have GE127 := GW127; replace HB := Aside0.mk (below_step bl_ hb); clear hb hbox hg) | ((with_reducible refine gate_dst (N := 3) rfl ?_); refine box_event rfl (N := 3) rfl (cs := #[.slice A1_0 l1_0.length c1_0]) (t := 28) gs_ ?_; intro gb128 hg w5 hbox hb; have BK128 := Aside0.mk (hbox); have GW128 := Aside0.mk ((by rw [hg]; exact bz_ : w.heap.size ≤ gb128)); have GE128 := GW128; replace HB := Aside0.mk (below_step bl_ hb); have NB127_128 := nl_ hg BK127; have NB128_127 := nm_ hg BK127; replace BK127 := bb_ BK127 hb; clear hb hbox hg) | ((with_reducible refine gate_dst (N := 4) rfl ?_); refine box_event rfl (N := 4) rfl (cs := #[.slice none 0 0]) (t := 28) gs_ ?_; intro gb129 hg w6 hbox hb; have BK129 := Aside0.mk (hbox); have GW129 := Aside0.mk ((by rw [hg]; exact bz_ : w.heap.size ≤ gb129)); have GE129 := GW129; replace HB := Aside0.mk (below_step bl_ hb); have NB127_129 := nl_ hg BK127; have NB129_127 := nm_ hg BK127; replace BK127 := bb_ BK127 hb; have NB128_129 := nl_ hg BK128; have NB129_128 := nm_ hg BK128; replace BK128 := bb_ BK128 hb; clear hb hbox hg) | ((with_reducible refine gate_dst (N := 5) rfl ?_); refine Kd.R_lit (Kd.int .i64) _ 3 rfl (N := 5) rfl (xs := ([] : List Int)) (inner := []) (ok := fun _ => True) (okp := fun _ => True) gs_ ?hp (fun _ hk => hk) trivial (Below.refl _ _) (Nat.le_refl _) (by simp) ?_; (case hp => exact (Reps.none _ _)); intro v131 w7 ho8 hb hg_ hnew_; clear hg_ hnew_; (first | rw [← Ny130.out] at ho8 | (simp only [Int.reduceToNat] at ho8; rw [← Ny130.out] at ho8)); have HO132 := Aside0.mk (Kd.R_lower ho8 bz_); replace BK127 := bb_ BK127 hb; replace BK128 := bb_ BK128 hb; replace BK129 := bb_ BK129 hb; replace HB := Aside0.mk (below_step bl_ hb); clear hb ho8; have hnb9 := NB127_128.out; have hnc9 := NB128_127.out; have hnb10 := NB127_129.out; have hnc10 := NB129_127.out; have hcz11_0 : w7.cell? ⟨gb127, 0, none⟩ = some (.slice A0_0 l0_0.length c0_0) := bc_ BK127.out 0; have hfz11_0 := blk_frozen BK127.out 0) | ((with_reducible refine gate_builtin (b := .append) (xs := #[.tmp 5, .tmp 7]) rfl ?_); at_builtin; refine Kd.R_append_rows (Kd.int .i64) (w0 := w) w.heap.size rfl (.tmp 5) (.tmp 7) 22 3 (.int .i64 0) 8 rfl Try.underlying22 info3 rfl (by decide) (by omega) v131 y130 l0_0 _ _ _ (fun _ => True) (fun _ => False) rfl rfl ?aO ?aR (fun _ _ h => h) (fun _ h => h.elim) ?aF ?aB ?aS ?aL ?_; (case aR => exact kc_ (Kd.C_below HR0_0.out HB.out)); (case aB => exact bl_); (case aF => exact (fun _ _ => trivial)); (case aO => exact (kr_ HO132.out)); (case aS => exact bz_); (case aL => have := LMc3.out; omega); intro v134 w12 ho hb hg hat; rw [← Ny133.out] at ho; replace BK127 := bgr_ BK127 hg HO132 BK127; replace BK128 := bgr_ BK128 hg HO132 BK128; replace BK129 := bgr_ BK129 hg HO132 BK129; replace HB := Aside0.mk (hb); have HO135 := Aside0.mk (ho); clear HO132 ho hb hg hat; obtain ⟨Ao13, co13, eo13⟩ := Kd.R_slice HO135.out; subst eo13) | (go_at_call 72; (with_reducible refine (impl_meet_delA (w0 := w) (ok := fun _ => True) (A := A1_0) (g := gb128) ?s1 NA.out ?s2 ?s3 ?s4 HC1_0.out NL.out).mono ?_); (case s1 => exact kr_ HO135.out); (case s2 => exact kb_ BK128.out); (case s3 => exact kc_ (Kd.C_below HR1_0.out HB.out)); (case s4 => intro W1 hg1; exact Kd.C_below HR1_0.out (Below.grown bl_ hg1 bz_ (Kd.R_base HO135.out))); rintro e w20 ⟨v20, rfl, ho2, hob, hg2⟩; rw [NE.out] at ho2; have n0_ := Aside0.mk (blk_grown (kb_ BK129.out) hg2 (Kd.R_ne HO135.out BK129.out (by decide))); have n1_ := Aside0.mk (Below.grown bl_ hg2 bz_ (Kd.R_base HO135.out)); have n2_ := Aside0.mk ho2; clear BK127 BK128 BK129 HB HO135; have BK129 := n0_; have HB := n1_; have HO135 := n2_; clear n0_ n1_ n2_ ho2 hob hg2; obtain ⟨Ao20, co20, eo20⟩ := Kd.R_slice HO135.out; subst eo20; have hcz15_0 : w20.cell? ⟨gb129, 0, none⟩ = some (.slice none 0 0) := bc_ BK129.out 0; have hfz15_0 := blk_frozen BK129.out 0))
 refine bodyPost_ret (results_cell_row rfl _ _ gb129 28 #[.slice Ao20 r.length co20] (0, 0) _ rfl (by (with_reducible repeat (first | refine blk_drewN ?_ _ | refine blk_drew ?_ | refine blk_alloc ?_ _)); refine blk_put (cs := #[.slice none 0 0]) ?_ 0 _ rfl; exact kb_ BK129.out) Try.underlying28 rfl (by kernel_rfl)) rfl ?_
 exact ⟨_, ng_, by exact kr_ (Kd.R_mono (Kd.R_far (p := ⟨gb129, 0, none⟩) (Kd.R_types HO135.out BK129.out (by decide)) (fun _ hk => hk.2) (.slice Ao20 r.length co20)) (fun _ hk => trivial)), bl_⟩

/-! ### laws_markIntS: function 59 -/
def laws_markIntS.l0 : Nat → List Int → Int → Int → Option (Int × List Int)
 | 0, _, _, _ => none
 | k + 1, x0, x1, x5 => if x5 < (x0.length : Int) then (if 0 ≤ x5 then (laws_markIntS.l0 k (x0.set (x5 : Int).toNat x1) (wrap64 (x1 + 1)) (wrap64 (x5 + 1))) else (none)) else (some (x1, x0))
def laws_markIntS.f (k : Nat) (l0 : List Int) (a1 : Int) : Option (Int × List Int) := laws_markIntS.l0 k l0 a1 0
theorem laws_markIntS.mono_l : ∀ k, (∀ y0 y1 y2, LeO (laws_markIntS.l0 k y0 y1 y2) (laws_markIntS.l0 (k + 1) y0 y1 y2))
 | 0 => fun _ _ _ r h => by simp [laws_markIntS.l0] at h
 | k + 1 => by
  have ih0 := laws_markIntS.mono_l k
  ·intro y0 y1 y2
   unfold laws_markIntS.l0
   repeat' first
   | (with_reducible exact ih0 _ _ _)
   | (with_reducible exact LeO.refl _)
   | (with_reducible exact LeO.none _)
   | (with_reducible refine LeO.ite ?_ ?_)
   | (with_reducible refine LeO.bind ?_ (fun _ => ?_))
   | exact ih0 _ _ _
   | exact LeO.none _
   | refine LeO.ite ?_ ?_
   | refine LeO.bind ?_ (fun _ => ?_)
theorem laws_markIntS.mono : ∀ a0 a1 k, LeO (laws_markIntS.f k a0 a1) (laws_markIntS.f (k + 1) a0 a1) := by
 intro a0 a1 k
 have ih0 := laws_markIntS.mono_l k
 unfold laws_markIntS.f
 repeat' first
   | (with_reducible exact ih0 _ _ _)
   | (with_reducible exact LeO.refl _)
   | (with_reducible exact LeO.none _)
   | (with_reducible refine LeO.ite ?_ ?_)
   | (with_reducible refine LeO.bind ?_ (fun _ => ?_))
   | exact ih0 _ _ _
   | exact LeO.none _
   | refine LeO.ite ?_ ?_
   | refine LeO.bind ?_ (fun _ => ?_)
set_option maxHeartbeats 8000000 in
set_option maxRecDepth 100000 in
theorem laws_markIntS.calls (k : Nat) (P0_ : Nat → Prop) (u9000_ : Value) (l0 : List Int) (a1 : Int) (r1 : Int) (r2 : List Int) (w0 w : World) (hB : Below w0.heap.size w0 w) (ho0 : Kd.R (Kd.int .i64) 3 w w0.heap.size P0_ u9000_ l0) (h : laws_markIntS.f k l0 a1 = some (r1, r2)) :
  Calls Try.prog 59 #[u9000_, .int .i64 a1] w fun e w' => e = .returned (.int .i64 r1) ∧ Kd.R (Kd.int .i64) 3 w' w0.heap.size (fun k_ => (P0_ k_ ∨ w.heap.size ≤ k_)) u9000_ r2 ∧ Below w0.heap.size w0 w' ∧ Kept w w' (fun k_ => P0_ k_) := by
 have HO0 := Aside0.mk (show Kd.R (Kd.int .i64) 3 w w0.heap.size (fun k_ => (P0_ k_ ∨ w.heap.size ≤ k_)) u9000_ l0 from Kd.R_mono ho0 (fun k_ hk => (.inl hk)))
 have HK := Aside0.mk (Kept.refl w (fun k_ => P0_ k_))
 have HW0 := Aside0.mk hB.size
 have HB := Aside0.mk hB
 clear hB
 have H : (laws_markIntS.l0 k l0 a1 0) = some (r1, r2) := h
 clear h
 have H' := Aside0.mk H
 clear H
 go_enter Try.func59, Try.ntmps59
 go_wp2
 go_loopg [1, 5] k (fun kq v1 v5 w' => ∃ (x0_1 : List Int) (x1_1 : Int) (x5_1 : Int), v1 = .int .i64 x1_1 ∧ v5 = .int .i64 x5_1 ∧ Aside0 (laws_markIntS.l0 kq x0_1 x1_1 x5_1 = some (r1, r2)) ∧ Aside0 (kq ≤ k) ∧ Aside0 (Kd.R (Kd.int .i64) 3 w' w0.heap.size (fun k_ => (P0_ k_ ∨ w.heap.size ≤ k_)) u9000_ x0_1) ∧ Aside0 (Kept w w' (fun k_ => P0_ k_)) ∧ Aside0 (Below w0.heap.size w0 w'))
 case atStart => exact ⟨(l0), (a1), (0), (by first | rfl | (simp; done) | (simp [*]; done)), (by first | rfl | (simp; done) | (simp [*]; done)), H', ⟨Nat.le_refl _⟩, ⟨by exact kr_ HO0.out⟩, ⟨by repeat (first | (with_reducible first | exact HK.out | apply Kept.alloc | apply Kept.drewN | apply Kept.drew) | exact HK.out)⟩, ⟨bl_⟩⟩
 clear H'
 try clear p2
 obtain ⟨x0_1, x1_1, x5_1, rfl, rfl, HA, HK1, HO_0, HK, HB⟩ := hrel
 cases gk with
 | zero => exact absurd HA.out (by simp [laws_markIntS.l0])
 | succ k1 => ?_
 have H := HA.out
 clear HA
 simp only [laws_markIntS.l0] at H
 by_cases c3 : x5_1 < (x0_1.length : Int)
 rotate_left
 ·rw [if_neg c3] at H
  have c3b0 : decide (x5_1 < (x0_1.length : Int)) = false := decide_eq_false c3
  clear c3
  simp only [Option.some.injEq, Prod.mk.injEq] at H
  obtain ⟨rfl, rfl⟩ := H
  obtain ⟨Ao9, co9, eo9⟩ := Kd.R_slice HO_0.out
  subst eo9
  go_wp2
  go_ret
  exact ⟨ng_, by exact kr_ HO_0.out, bl_, by repeat (first | (with_reducible first | exact HK.out | apply Kept.alloc | apply Kept.drewN | apply Kept.drew) | exact HK.out)⟩
 rw [if_pos c3] at H
 have c3b0 : decide (x5_1 < (x0_1.length : Int)) = true := decide_eq_true c3
 clear c3
 by_cases c4 : 0 ≤ x5_1
 rotate_left
 ·rw [if_neg c4] at H
  exact absurd H (by simp)
 rw [if_pos c4] at H
 have c4b0 : decide (0 ≤ x5_1) = true := decide_eq_true c4
 clear c4
 obtain ⟨y218, hy218⟩ : ∃ y_ : List Int, y_ = (x0_1.set (x5_1 : Int).toNat x1_1) := ⟨_, rfl⟩
 replace H : (laws_markIntS.l0 k1 y218 (wrap64 (x1_1 + 1)) (wrap64 (x5_1 + 1))) = some (r1, r2) := by first | (rw [hy218]; with_reducible exact H) | (have H2_ := (Option.bind_some _ _).symm.trans H; rw [hy218]; with_reducible exact H2_) | (have H2_ := (Option.bind_some _ _).symm.trans H; with_reducible exact H2_) | with_reducible exact H | (rw [hy218]; exact H) | exact H
 have Ny218 := Aside0.mk hy218
 clear hy218
 have H' := Aside0.mk H
 clear H
 obtain ⟨Ao6, co6, eo6⟩ := Kd.R_slice HO_0.out
 subst eo6
 have p5 : 0 ≤ (x5_1 : Int) := of_decide_eq_true (by first | (with_reducible assumption) | assumption)
 have q5 : (x5_1 : Int) < ((x0_1.length : Int) : Int) := of_decide_eq_true (by first | (with_reducible assumption) | assumption)
 obtain ⟨go5, co5, eo5, gb5, gl5, cl5, HG5⟩ := Kd.R_form HO_0.out (by omega)
 (first | cases eo5 | (injection eo5 with ea_ en_ ec_; (first | subst ea_ | (injection ea_ with ea_; subst ea_)); subst ec_; clear en_))
 have GB5 := Aside0.mk gb5
 have GG5 := Aside0.mk HG5
 clear gb5 gl5 HG5
 have HMgo5 := Aside0.mk (show (P0_ go5 ∨ w.heap.size ≤ go5) from (HO_0.out.1 _ rfl))
 obtain ⟨hx5_0, hf5_0⟩ := Kd.R_celln 0 HO_0.out (x5_1 : Int) p5 q5
 replace p5 := eq_true p5
 replace q5 := eq_true q5
 have HP7 := Kd.R_putg HO_0.out (x5_1 : Int) x1_1
 go_wp2_with (first | ((with_reducible refine gate_store (t := 3) (p := 15) rfl ?_); refine store_event (t := 3) (p := 15) (v := ?vo_w8) (w1 := (wr.setCell ⟨go5, (x5_1 : Int).toNat, none⟩ (.int .i64 x1_1))) ?hg ?ho ?hn ?hr ?_; (case ho => rfl); (case hg => rfl); (case hn => rfl); (case hr => first | (go_simp; done) | (go_simp; rfl)); intro w8 hw; have hg : wr.grownBy w8 (some go5) := (by rw [hw]; exact HP7.2); have hp_ : Kd.R (Kd.int .i64) 3 w8 w0.heap.size (fun k_ => (P0_ k_ ∨ w.heap.size ≤ k_)) (.slice (some ⟨go5, 0, none⟩) x0_1.length co6) y218 := (by rw [hw, Ny218.out]; exact HP7.1); clear HP7; replace HB := Aside0.mk ((by rw [hw]; exact below_set (HB.out) GB5.out : Below w0.heap.size w0 w8)); replace HK := Aside0.mk (Kept.of_grown (S := (fun k_ => P0_ k_)) hg (by repeat (first | (with_reducible first | exact HK.out | apply Kept.alloc | apply Kept.drewN | apply Kept.drew) | exact HK.out)) (fun k_ e_ => (HO_0.out.1 k_ e_))); replace HO_0 := Aside0.mk (hp_); clear hg hw hp_))
 go_roundg k1
 case measure => have := HK1.out; omega
 case rel => exact ⟨(y218), (wrap64 (x1_1 + 1)), (wrap64 (x5_1 + 1)), (by first | rfl | (simp; done) | (simp [*]; done)), (by first | rfl | (simp; done) | (simp [*]; done)), H', ⟨by have := HK1.out; omega⟩, ⟨by exact kr_ HO_0.out⟩, ⟨by repeat (first | (with_reducible first | exact HK.out | apply Kept.alloc | apply Kept.drewN | apply Kept.drew) | exact HK.out)⟩, ⟨bl_⟩⟩

-- NOT PRINTED: function 43 (laws_markGroupS)

/-! ### laws_heldIntS: function 60 -/
def laws_heldIntS.l0 : Nat → List Int → Int → Int → Option (Int)
 | 0, _, _, _ => none
 | k + 1, x0, x1, x5 => if x5 < (x0.length : Int) then (if 0 ≤ x5 then (if (rd x0 x5) = x1 then (laws_heldIntS.l0 k x0 (wrap64 (x1 + 1)) (wrap64 (x5 + 1))) else (some (-1))) else (none)) else (some x1)
def laws_heldIntS.f (k : Nat) (l0 : List Int) (a1 : Int) : Option (Int) := laws_heldIntS.l0 k l0 a1 0
theorem laws_heldIntS.mono_l : ∀ k, (∀ y0 y1 y2, LeO (laws_heldIntS.l0 k y0 y1 y2) (laws_heldIntS.l0 (k + 1) y0 y1 y2))
 | 0 => fun _ _ _ r h => by simp [laws_heldIntS.l0] at h
 | k + 1 => by
  have ih0 := laws_heldIntS.mono_l k
  ·intro y0 y1 y2
   unfold laws_heldIntS.l0
   repeat' first
   | (with_reducible exact ih0 _ _ _)
   | (with_reducible exact LeO.refl _)
   | (with_reducible exact LeO.none _)
   | (with_reducible refine LeO.ite ?_ ?_)
   | (with_reducible refine LeO.bind ?_ (fun _ => ?_))
   | exact ih0 _ _ _
   | exact LeO.none _
   | refine LeO.ite ?_ ?_
   | refine LeO.bind ?_ (fun _ => ?_)
theorem laws_heldIntS.mono : ∀ a0 a1 k, LeO (laws_heldIntS.f k a0 a1) (laws_heldIntS.f (k + 1) a0 a1) := by
 intro a0 a1 k
 have ih0 := laws_heldIntS.mono_l k
 unfold laws_heldIntS.f
 repeat' first
   | (with_reducible exact ih0 _ _ _)
   | (with_reducible exact LeO.refl _)
   | (with_reducible exact LeO.none _)
   | (with_reducible refine LeO.ite ?_ ?_)
   | (with_reducible refine LeO.bind ?_ (fun _ => ?_))
   | exact ih0 _ _ _
   | exact LeO.none _
   | refine LeO.ite ?_ ?_
   | refine LeO.bind ?_ (fun _ => ?_)
set_option maxHeartbeats 8000000 in
set_option maxRecDepth 100000 in
theorem laws_heldIntS.calls (k : Nat) (A0 : Option Addr) (c0 : Nat) (l0 : List Int) (a1 : Int) (r : Int) (w : World) (hr0 : Kd.C (Kd.int .i64) w A0 l0.length l0) (hc0 : l0.length ≤ c0) (h : laws_heldIntS.f k l0 a1 = some r) :
  Calls Try.prog 60 #[.slice A0 l0.length c0, .int .i64 a1] w fun e w' => e = .returned (.int .i64 r) ∧ Drawn0 w w' := by
 have HR0 := Aside0.mk hr0
 have HC0 := Aside0.mk hc0
 clear hr0 hc0
 have H : (laws_heldIntS.l0 k l0 a1 0) = some r := h
 clear h
 have H' := Aside0.mk H
 clear H
 go_enter Try.func60, Try.ntmps60
 go_wp2
 go_loopg [1, 5] k (fun kq v1 v5 w' => ∃ (x1_1 : Int) (x5_1 : Int), v1 = .int .i64 x1_1 ∧ v5 = .int .i64 x5_1 ∧ Aside0 (laws_heldIntS.l0 kq l0 x1_1 x5_1 = some r) ∧ Aside0 (kq ≤ k) ∧ Drawn0 w w')
 case atStart => exact ⟨(a1), (0), (by first | rfl | (simp; done) | (simp [*]; done)), (by first | rfl | (simp; done) | (simp [*]; done)), H', ⟨Nat.le_refl _⟩, by repeat (first | exact Drawn0.refl _ | apply Drawn0.step)⟩
 clear H'
 try clear p2
 obtain ⟨x1_1, x5_1, rfl, rfl, HA, HK1, ⟨m1, rfl⟩⟩ := hrel
 cases gk with
 | zero => exact absurd HA.out (by simp [laws_heldIntS.l0])
 | succ k1 => ?_
 have H := HA.out
 clear HA
 simp only [laws_heldIntS.l0] at H
 by_cases c3 : x5_1 < (l0.length : Int)
 rotate_left
 ·rw [if_neg c3] at H
  have c3b0 : decide (x5_1 < (l0.length : Int)) = false := decide_eq_false c3
  clear c3
  obtain rfl := Option.some.inj H
  go_wp2
  go_ret
  exact ⟨by first | rfl | (simp; done) | (simp [*]; done), by repeat (first | exact Drawn0.refl _ | apply Drawn0.step)⟩
 rw [if_pos c3] at H
 have c3b0 : decide (x5_1 < (l0.length : Int)) = true := decide_eq_true c3
 clear c3
 by_cases c4 : 0 ≤ x5_1
 rotate_left
 ·rw [if_neg c4] at H
  exact absurd H (by simp)
 rw [if_pos c4] at H
 have c4b0 : decide (0 ≤ x5_1) = true := decide_eq_true c4
 clear c4
 by_cases c5 : (rd l0 x5_1) = x1_1
 rotate_left
 ·rw [if_neg c5] at H
  have c5b0 : ((rd l0 x5_1) == x1_1) = false := beq_eq_false_iff_ne.mpr c5
  have c5b1 : ((rd l0 x5_1) != x1_1) = true := bne_iff_ne.mpr c5
  obtain rfl := Option.some.inj H
  have p220 : 0 ≤ (x5_1 : Int) := of_decide_eq_true (by first | (with_reducible assumption) | assumption)
  have q220 : x5_1 < (l0.length : Int) := of_decide_eq_true (by first | (with_reducible assumption) | assumption)
  obtain ⟨ad220, e220, hx220_0⟩ := Kd.at_int HR0.out x5_1 p220 q220
  cases e220
  replace p220 := eq_true p220
  replace q220 := eq_true q220
  go_wp2
  go_ret
  exact ⟨by first | rfl | (simp; done) | (simp [*]; done), by repeat (first | exact Drawn0.refl _ | apply Drawn0.step)⟩
 rw [if_pos c5] at H
 have c5b0 : ((rd l0 x5_1) == x1_1) = true := beq_iff_eq.mpr c5
 have c5b1 : ((rd l0 x5_1) != x1_1) = false := bne_eq_false_iff_eq.mpr c5
 clear c5
 have H' := Aside0.mk H
 clear H
 have p220 : 0 ≤ (x5_1 : Int) := of_decide_eq_true (by first | (with_reducible assumption) | assumption)
 have q220 : x5_1 < (l0.length : Int) := of_decide_eq_true (by first | (with_reducible assumption) | assumption)
 obtain ⟨ad220, e220, hx220_0⟩ := Kd.at_int HR0.out x5_1 p220 q220
 cases e220
 replace p220 := eq_true p220
 replace q220 := eq_true q220
 go_wp2
 go_roundg k1
 case measure => have := HK1.out; omega
 case rel => exact ⟨(wrap64 (x1_1 + 1)), (wrap64 (x5_1 + 1)), (by first | rfl | (simp; done) | (simp [*]; done)), (by first | rfl | (simp; done) | (simp [*]; done)), H', ⟨by have := HK1.out; omega⟩, by repeat (first | exact Drawn0.refl _ | apply Drawn0.step)⟩

/-! ### laws_heldGroupS: function 44 -/
def laws_heldGroupS.l0 : Nat → List (S28) → Int → Int → Option (Int)
 | 0, _, _, _ => none
 | k + 1, x0, x1, x5 => if x5 < (x0.length : Int) then (if 0 ≤ x5 then ((laws_heldIntS.f k ((rd_T28 x0 x5).f0) x1).bind fun t222 => (if t222 < 0 then (some (-1)) else (laws_heldGroupS.l0 k x0 t222 (wrap64 (x5 + 1))))) else (none)) else (some x1)
def laws_heldGroupS.f (k : Nat) (l0 : List (S28)) (a1 : Int) : Option (Int) := laws_heldGroupS.l0 k l0 a1 0
theorem laws_heldGroupS.mono_l : ∀ k, (∀ y0 y1 y2, LeO (laws_heldGroupS.l0 k y0 y1 y2) (laws_heldGroupS.l0 (k + 1) y0 y1 y2))
 | 0 => fun _ _ _ r h => by simp [laws_heldGroupS.l0] at h
 | k + 1 => by
  have ih0 := laws_heldGroupS.mono_l k
  ·intro y0 y1 y2
   unfold laws_heldGroupS.l0
   repeat' first
   | (with_reducible exact ih0 _ _ _)
   | (with_reducible exact laws_heldIntS.mono _ _ _)
   | (with_reducible exact LeO.refl _)
   | (with_reducible exact LeO.none _)
   | (with_reducible refine LeO.ite ?_ ?_)
   | (with_reducible refine LeO.bind ?_ (fun _ => ?_))
   | exact ih0 _ _ _
   | exact laws_heldIntS.mono _ _ _
   | exact LeO.none _
   | refine LeO.ite ?_ ?_
   | refine LeO.bind ?_ (fun _ => ?_)
theorem laws_heldGroupS.mono : ∀ a0 a1 k, LeO (laws_heldGroupS.f k a0 a1) (laws_heldGroupS.f (k + 1) a0 a1) := by
 intro a0 a1 k
 have ih0 := laws_heldGroupS.mono_l k
 unfold laws_heldGroupS.f
 repeat' first
   | (with_reducible exact ih0 _ _ _)
   | (with_reducible exact laws_heldIntS.mono _ _ _)
   | (with_reducible exact LeO.refl _)
   | (with_reducible exact LeO.none _)
   | (with_reducible refine LeO.ite ?_ ?_)
   | (with_reducible refine LeO.bind ?_ (fun _ => ?_))
   | exact ih0 _ _ _
   | exact laws_heldIntS.mono _ _ _
   | exact LeO.none _
   | refine LeO.ite ?_ ?_
   | refine LeO.bind ?_ (fun _ => ?_)
set_option maxHeartbeats 8000000 in
set_option maxRecDepth 100000 in
theorem laws_heldGroupS.calls (k : Nat) (A0 : Option Addr) (c0 : Nat) (l0 : List (S28)) (a1 : Int) (r : Int) (w : World) (hr0 : Kd.C k28 w A0 l0.length l0) (hc0 : l0.length ≤ c0) (h : laws_heldGroupS.f k l0 a1 = some r) :
  Calls Try.prog 44 #[.slice A0 l0.length c0, .int .i64 a1] w fun e w' => e = .returned (.int .i64 r) ∧ Drawn0 w w' := by
 have HR0 := Aside0.mk hr0
 have HC0 := Aside0.mk hc0
 clear hr0 hc0
 have H : (laws_heldGroupS.l0 k l0 a1 0) = some r := h
 clear h
 have H' := Aside0.mk H
 clear H
 go_enter Try.func44, Try.ntmps44
 go_wp2
 go_loopg [1, 5] k (fun kq v1 v5 w' => ∃ (x1_1 : Int) (x5_1 : Int), v1 = .int .i64 x1_1 ∧ v5 = .int .i64 x5_1 ∧ Aside0 (laws_heldGroupS.l0 kq l0 x1_1 x5_1 = some r) ∧ Aside0 (kq ≤ k) ∧ Drawn0 w w')
 case atStart => exact ⟨(a1), (0), (by first | rfl | (simp; done) | (simp [*]; done)), (by first | rfl | (simp; done) | (simp [*]; done)), H', ⟨Nat.le_refl _⟩, by repeat (first | exact Drawn0.refl _ | apply Drawn0.step)⟩
 clear H'
 try clear p2
 obtain ⟨x1_1, x5_1, rfl, rfl, HA, HK1, ⟨m1, rfl⟩⟩ := hrel
 cases gk with
 | zero => exact absurd HA.out (by simp [laws_heldGroupS.l0])
 | succ k1 => ?_
 have H := HA.out
 clear HA
 simp only [laws_heldGroupS.l0] at H
 by_cases c3 : x5_1 < (l0.length : Int)
 rotate_left
 ·rw [if_neg c3] at H
  have c3b0 : decide (x5_1 < (l0.length : Int)) = false := decide_eq_false c3
  clear c3
  obtain rfl := Option.some.inj H
  go_wp2
  go_ret
  exact ⟨by first | rfl | (simp; done) | (simp [*]; done), by repeat (first | exact Drawn0.refl _ | apply Drawn0.step)⟩
 rw [if_pos c3] at H
 have c3b0 : decide (x5_1 < (l0.length : Int)) = true := decide_eq_true c3
 clear c3
 by_cases c4 : 0 ≤ x5_1
 rotate_left
 ·rw [if_neg c4] at H
  exact absurd H (by simp)
 rw [if_pos c4] at H
 have c4b0 : decide (0 ≤ x5_1) = true := decide_eq_true c4
 clear c4
 replace H := Option.bind_eq_some_iff.mp H
 obtain ⟨t222, A50, H⟩ := H
 replace H : (if t222 < 0 then (some (-1)) else (laws_heldGroupS.l0 k1 l0 t222 (wrap64 (x5_1 + 1)))) = some r := H
 have A5 := Aside0.mk A50
 clear A50
 by_cases c6 : t222 < 0
 ·rw [if_pos c6] at H
  have c6b0 : decide (t222 < 0) = true := decide_eq_true c6
  clear c6
  obtain rfl := Option.some.inj H
  have p221 : 0 ≤ (x5_1 : Int) := of_decide_eq_true (by first | (with_reducible assumption) | assumption)
  have q221 : x5_1 < (l0.length : Int) := of_decide_eq_true (by first | (with_reducible assumption) | assumption)
  obtain ⟨ad221, A221_0, c221_0, e221, hx221_0, hl221_0, hi221_0⟩ := at_T28 HR0.out x5_1 p221 q221
  cases e221
  have HR221_0 := Aside0.mk hi221_0
  have HC221_0 := Aside0.mk hl221_0
  clear hi221_0 hl221_0
  replace p221 := eq_true p221
  replace q221 := eq_true q221
  go_wp2_with (first | ((with_reducible refine gate_callee (f := 60) rfl ?_); refine goesL_ (some 18) rfl rfl Try.func60 (by kernel_rfl) rfl #[.slice A221_0 ((rd_T28 l0 x5_1).f0).length c221_0, .int .i64 x1_1] rfl nc_ ?_; (with_reducible refine (laws_heldIntS.calls k1 _ _ ((rd_T28 l0 x5_1).f0) x1_1 t222 _ ?side1 ?side2 A5.out).mono ?_); (case side1 => exact kc_ HR221_0.out); (case side2 => exact HC221_0.out); rintro e w' ⟨rfl, ⟨nd, rfl⟩⟩; refine ⟨_, rfl, ?_⟩))
  go_ret
  exact ⟨by first | rfl | (simp; done) | (simp [*]; done), by repeat (first | exact Drawn0.refl _ | apply Drawn0.step)⟩
 rw [if_neg c6] at H
 have c6b0 : decide (t222 < 0) = false := decide_eq_false c6
 clear c6
 have H' := Aside0.mk H
 clear H
 have p221 : 0 ≤ (x5_1 : Int) := of_decide_eq_true (by first | (with_reducible assumption) | assumption)
 have q221 : x5_1 < (l0.length : Int) := of_decide_eq_true (by first | (with_reducible assumption) | assumption)
 obtain ⟨ad221, A221_0, c221_0, e221, hx221_0, hl221_0, hi221_0⟩ := at_T28 HR0.out x5_1 p221 q221
 cases e221
 have HR221_0 := Aside0.mk hi221_0
 have HC221_0 := Aside0.mk hl221_0
 clear hi221_0 hl221_0
 replace p221 := eq_true p221
 replace q221 := eq_true q221
 go_wp2_with (first | ((with_reducible refine gate_callee (f := 60) rfl ?_); refine goesL_ (some 18) rfl rfl Try.func60 (by kernel_rfl) rfl #[.slice A221_0 ((rd_T28 l0 x5_1).f0).length c221_0, .int .i64 x1_1] rfl nc_ ?_; (with_reducible refine (laws_heldIntS.calls k1 _ _ ((rd_T28 l0 x5_1).f0) x1_1 t222 _ ?side1 ?side2 A5.out).mono ?_); (case side1 => exact kc_ HR221_0.out); (case side2 => exact HC221_0.out); rintro e w' ⟨rfl, ⟨nd, rfl⟩⟩; refine ⟨_, rfl, ?_⟩))
 go_roundg k1
 case measure => have := HK1.out; omega
 case rel => exact ⟨(t222), (wrap64 (x5_1 + 1)), (by first | rfl | (simp; done) | (simp [*]; done)), (by first | rfl | (simp; done) | (simp [*]; done)), H', ⟨by have := HK1.out; omega⟩, by repeat (first | exact Drawn0.refl _ | apply Drawn0.step)⟩

-- NOT PRINTED: function 11 (laws_FnExactMinimalOf)

end Go.Proofs.Ythbollaceiffpaa.PMO
