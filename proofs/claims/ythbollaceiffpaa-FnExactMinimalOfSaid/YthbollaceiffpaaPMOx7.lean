/- What this text proves (a hand-built part): impl.MinimalOf's second closure and impl.MinimalOf. Conditions: as each theorem says. -/
import Derived.Test.YthbollaceiffpaaPMOx0
import Derived.Test.YthbollaceiffpaaPMOx5
import Derived.Test.YthbollaceiffpaaPMOx6
namespace Go.Proofs.Ythbollaceiffpaa.PMO
open Go.RowKit Go.Proofs.YthbollaceiffpaaW.PrintWords Go.Proofs.YthbollaceiffpaaW.PrintLast Go.Proofs.YthbollaceiffpaaW.PrintMore
attribute [local go_sem] max2_int min2_int max_two min_two max_three min_three max_four min_four   -- for this text's walks alone
set_option linter.unusedVariables false
set_option linter.unusedSimpArgs false

/-- A call of a function value in a region that draws its order. -/
theorem goesV_ {P : Program} {ops : Array Oper} {Q : Exit → Act → World → Prop} {oi : Oper} {N : Option Tmp} {a : Act} {w : World} {K : Act → World → Prop} {f : FuncId} {fn : Func} {o : Operand} {xs : Array Operand} {ts : Array TypeId} {lb : Array Value} (hf : P.funcs[f]? = some fn) (hname : (fn.name == "runtime.NumGoroutine") = false) (hb : fn.body.isSome = true) (args : Array Value)
    (hw : Region.wanted oi (yielded ops a.tmps) = true) (hN : oi.dst = N) (hop : oi.op = .call { callee := .value o, args := xs, argTypes := ts }) (hfn : a.eval o = .func (.func f) #[] lb) (hargs : xs.map a.eval ++ lb = args)
    (h : Calls P f args w fun e w' => ∃ v, e = .returned v ∧ K (a.put N v) w') : if Region.wanted oi (yielded ops a.tmps) = true then Oper.wp P oi a w K Q else K (a.put N undef) w := by
  refine call_ f args hw hN ?_ h
  have he := enters_ hf hname hb args w
  unfold execOp
  subst hargs
  simp [hop, resolve, Deferred.ofValue, invoke, hfn, he]

theorem run_store_func {P : Program} (w : World) (a : Addr) (m : Mode) (f : Fn) (x y : Array Value) : (store a (.func f x y) m).run P w = stored P w a (.func f x y) m := run_store P w a _ m rfl
attribute [local go_sem] run_store_func

/-! ### impl_MinimalOf_2: function 68 -/
def impl_MinimalOf_2.f (k : Nat) (l m : List Int) : Option Bool := (impl_MinimalOf_1.f k l m).bind fun s => if s = true then some false else (impl_meet.f l m).bind fun t => some ((t.length : Int) == (l.length : Int))
theorem impl_MinimalOf_2.mono : ∀ a0 a1 k, LeO (impl_MinimalOf_2.f k a0 a1) (impl_MinimalOf_2.f (k + 1) a0 a1) := by
 intro a0 a1 k
 unfold impl_MinimalOf_2.f
 refine LeO.bind (impl_MinimalOf_1.mono _ _ _) (fun _ => LeO.refl _)
def impl_MinimalOf_2.T1 : Bool × List (List Nat × List Nat) := (true, [([], []), ([], []), ([0, 1], [0, 1]), ([2], [2]), ([3, 2], [3]), ([4], [4]), ([4], [4]), ([5, 6, 4, 4], [4, 5, 6]), ([7, 4], [4, 7]), ([8, 4], [4, 8]), ([4], [4]), ([10, 4], [4, 10]), ([11, 4], [4, 11]), ([9, 12, 4], [4, 9, 12]), ([4, 13], [4, 13]), ([14, 7, 0, 1, 2, 3, 4, 5, 6, 7, 8, 9, 10, 11, 12, 13, 14], [14])])
def impl_MinimalOf_2.B1 : List Nat := [0, 0, 3, 7, 15, 31, 31, 127, 255, 511, 31, 1055, 3103, 8191, 16383, 32767]
theorem impl_MinimalOf_2.tab1 : rtab .any (opsOf Try.f68 1) = impl_MinimalOf_2.T1 := by kernel_rfl
theorem impl_MinimalOf_2.bits1 : waitsOk impl_MinimalOf_2.T1.2 impl_MinimalOf_2.B1 = true := by kernel_rfl
set_option maxHeartbeats 8000000 in
set_option maxRecDepth 100000 in
theorem impl_MinimalOf_2.gives (k : Nat) (A : Option Addr) (c : Nat) (l : List Int) (A1 : Option Addr) (c1 : Nat) (m : List Int) (g8 g9 : Nat) (b : Bool) (w : World)
  (hf : w.heap[g9]? = some (.cells #[.func (.func 65) #[] #[.pointer (some ⟨g8, 0, none⟩)]] 76 (0, 0))) (hg : w.heap[g8]? = some (.cells #[.slice A1 m.length c1] 28 (0, 0)))
  (hl : l.length ≤ c) (hr : Kd.C (Kd.int .i64) w A l.length l) (hl1 : m.length ≤ c1) (hr1 : Kd.C (Kd.int .i64) w A1 m.length m) (h : impl_MinimalOf_2.f k l m = some b) :
  Calls Try.prog 68 #[.agg #[.slice A l.length c], .pointer (some ⟨g9, 0, none⟩), .pointer (some ⟨g8, 0, none⟩)] w fun e w' => e = .returned (.bool b) ∧ Below w.heap.size w w' := by
 have hu28 := Try.underlying28
 have HR0 := Aside0.mk hr
 have HC0 := Aside0.mk hl
 have HR1 := Aside0.mk hr1
 have HC1 := Aside0.mk hl1
 have BK9 := Aside0.mk hf
 have BK8 := Aside0.mk hg
 clear hr hl hr1 hl1 hf hg
 have HB := Aside0.mk (Below.refl w.heap.size w)
 obtain ⟨s, hs, h2⟩ := Option.bind_eq_some_iff.mp (show (impl_MinimalOf_1.f k l m).bind _ = some b from h)
 clear h
 have A3 := Aside0.mk hs
 clear hs
 cases s with
 | true =>
  rw [if_pos rfl] at h2
  obtain rfl := Option.some.inj h2
  clear h2
  go_enter Try.func68, Try.ntmps68
  try go_wp2_with (first | ((with_reducible refine gate_dst (N := 3) rfl ?_); (try (refine gate_guard (by rfl) ?_; dsimp only)); refine box_event rfl (N := 3) rfl (cs := #[.slice A l.length c]) (t := 28) gs_ ?_; intro gb hg w5 hbox hb; have BK3 := Aside0.mk (hbox); replace HB := Aside0.mk (below_step bl_ hb); replace BK8 := bb_ BK8 hb; replace BK9 := bb_ BK9 hb; clear hb hbox hg))
  replace BK3 := Aside0.mk (blk_drew BK3.out)
  replace BK8 := Aside0.mk (blk_drew BK8.out)
  replace BK9 := Aside0.mk (blk_drew BK9.out)
  replace HB := Aside0.mk (below_drew1 HB.out)
  refine start_ (n := 16) (S := fun w' => w'.cell? ⟨g9, 0, none⟩ = some (.func (.func 65) #[] #[.pointer (some ⟨g8, 0, none⟩)]) ∧ w'.cell? ⟨g8, 0, none⟩ = some (.slice A1 m.length c1) ∧ w'.cell? ⟨gb, 0, none⟩ = some (.slice A l.length c)) (ds := []) #[false, false, false, false, false, false, false, false, false, false, false, false, false, false, false, false] (by kernel_rfl) rfl rfl ⟨bc_ BK9.out 0, bc_ BK8.out 0, bc_ BK3.out 0⟩ (fun hHeld => ?_); refine with_tabW impl_MinimalOf_2.tab1 impl_MinimalOf_2.bits1 (fun HT_ HW_ => ?_)
  generalize w5.drew = w7 at BK3 BK8 BK9 HB hHeld ⊢
  refine tk2_ 0 (some 5) (h := ?_)
  refine tk2_ 1 (some 6) (h := ?_)
  refine on_ 2 (some 7) (h := fun K hK => ?_)
  refine goesV_ Try.func65 (by kernel_rfl) rfl #[.agg #[.slice A l.length c], .pointer (some ⟨g8, 0, none⟩)] (by rfl) rfl rfl rfl nc_ ?_
  with_reducible refine (impl_MinimalOf_1.calls k _ _ l A1 c1 m true _ ?side1 ?side2 ?side3 ?side4 A3.out (hbk_ := ?side5)).mono ?_
  (case side1 => exact kc_ (Kd.C_below HR0.out HB.out))
  (case side2 => exact HC0.out)
  (case side3 => exact kc_ (Kd.C_below HR1.out HB.out))
  (case side4 => exact HC1.out)
  (case side5 => exact kb_ BK8.out)
  rintro e w8 ⟨rfl, hb⟩
  refine ⟨_, rfl, ?_⟩
  replace BK3 := bb_ BK3 hb
  replace BK8 := bb_ BK8 hb
  replace BK9 := bb_ BK9 hb
  replace HB := Aside0.mk (below_step bl_ hb)
  clear hb
  refine hK.out _ _ ⟨bc_ BK9.out 0, bc_ BK8.out 0, bc_ BK3.out 0⟩ (fun hHeld => ?_)
  clear hK K
  refine norm_ nn_ ?_
  refine pu_ 3 (some 8) (h := ?_)
  refine pu_ 4 (some 9) (h := ?_)
  refine px_ 5 (some 10) (h := ?_)
  refine px_ 6 (some 11) (h := ?_)
  refine px_ 7 (some 12) (h := ?_)
  refine px_ 8 (some 13) (h := ?_)
  refine px_ 9 (some 14) (h := ?_)
  refine px_ 10 (some 15) (h := ?_)
  refine px_ 11 (some 16) (h := ?_)
  refine px_ 12 (some 17) (h := ?_)
  refine px_ 13 (some 18) (h := ?_)
  refine pu_ 14 (some 19) (h := ?_)
  refine pu_ 15 (some 4) (h := ?_)
  refine done_ (done_of HT_.out (by kernel_rfl)) ?_
  try go_wp2
  go_ret
  exact ⟨ng_, bl_⟩
 | false =>
  rw [if_neg (by decide)] at h2
  obtain ⟨t, ht, h3⟩ := Option.bind_eq_some_iff.mp h2
  clear h2
  obtain rfl := Option.some.inj h3
  have A4 := Aside0.mk ht
  clear h3 ht
  go_enter Try.func68, Try.ntmps68
  try go_wp2_with (first | ((with_reducible refine gate_dst (N := 3) rfl ?_); (try (refine gate_guard (by rfl) ?_; dsimp only)); refine box_event rfl (N := 3) rfl (cs := #[.slice A l.length c]) (t := 28) gs_ ?_; intro gb hg w5 hbox hb; have BK3 := Aside0.mk (hbox); replace HB := Aside0.mk (below_step bl_ hb); replace BK8 := bb_ BK8 hb; replace BK9 := bb_ BK9 hb; clear hb hbox hg))
  replace BK3 := Aside0.mk (blk_drew BK3.out)
  replace BK8 := Aside0.mk (blk_drew BK8.out)
  replace BK9 := Aside0.mk (blk_drew BK9.out)
  replace HB := Aside0.mk (below_drew1 HB.out)
  refine start_ (n := 16) (S := fun w' => w'.cell? ⟨g9, 0, none⟩ = some (.func (.func 65) #[] #[.pointer (some ⟨g8, 0, none⟩)]) ∧ w'.cell? ⟨g8, 0, none⟩ = some (.slice A1 m.length c1) ∧ w'.cell? ⟨gb, 0, none⟩ = some (.slice A l.length c)) (ds := []) #[false, false, false, false, false, false, false, false, false, false, false, false, false, false, false, false] (by kernel_rfl) rfl rfl ⟨bc_ BK9.out 0, bc_ BK8.out 0, bc_ BK3.out 0⟩ (fun hHeld => ?_); refine with_tabW impl_MinimalOf_2.tab1 impl_MinimalOf_2.bits1 (fun HT_ HW_ => ?_)
  generalize w5.drew = w7 at BK3 BK8 BK9 HB hHeld ⊢
  refine tk2_ 0 (some 5) (h := ?_)
  refine tk2_ 1 (some 6) (h := ?_)
  refine on_ 2 (some 7) (h := fun K hK => ?_)
  refine goesV_ Try.func65 (by kernel_rfl) rfl #[.agg #[.slice A l.length c], .pointer (some ⟨g8, 0, none⟩)] (by rfl) rfl rfl rfl nc_ ?_
  with_reducible refine (impl_MinimalOf_1.calls k _ _ l A1 c1 m false _ ?side1 ?side2 ?side3 ?side4 A3.out (hbk_ := ?side5)).mono ?_
  (case side1 => exact kc_ (Kd.C_below HR0.out HB.out))
  (case side2 => exact HC0.out)
  (case side3 => exact kc_ (Kd.C_below HR1.out HB.out))
  (case side4 => exact HC1.out)
  (case side5 => exact kb_ BK8.out)
  rintro e w8 ⟨rfl, hb⟩
  refine ⟨_, rfl, ?_⟩
  replace BK3 := bb_ BK3 hb
  replace BK8 := bb_ BK8 hb
  replace BK9 := bb_ BK9 hb
  replace HB := Aside0.mk (below_step bl_ hb)
  clear hb
  refine hK.out _ _ ⟨bc_ BK9.out 0, bc_ BK8.out 0, bc_ BK3.out 0⟩ (fun hHeld => ?_)
  clear hK K
  refine norm_ nn_ ?_
  refine pu_ 3 (some 8) (h := ?_)
  refine pu_ 4 (some 9) (h := ?_)
  refine tk2_ 5 (some 10) (h := ?_)
  refine tk2_ 6 (some 11) (h := ?_)
  refine pu_ 10 (some 15) (h := ?_)
  refine tk2_ 11 (some 16) (h := ?_)
  refine pu_ 12 (some 17) (h := ?_)
  refine on_ 7 (some 12) (h := fun K hK => ?_)
  refine goes_ Try.func57 (by kernel_rfl) rfl #[.agg #[.slice A l.length c], .agg #[.slice A1 m.length c1]] (by rfl) rfl rfl nc_ ?_
  with_reducible refine (impl_meet.calls _ _ l _ _ m t _ ?side1 ?side2 ?side3 ?side4 A4.out).mono ?_
  (case side1 => exact kc_ (Kd.C_below HR0.out HB.out))
  (case side2 => exact HC0.out)
  (case side3 => exact kc_ (Kd.C_below HR1.out HB.out))
  (case side4 => exact HC1.out)
  rintro e w10 ⟨v155, rfl, ho0, hb⟩
  refine ⟨_, rfl, ?_⟩
  have HO := Aside0.mk (Kd.R_lower ho0 bz_)
  replace BK3 := bb_ BK3 hb
  replace BK8 := bb_ BK8 hb
  replace BK9 := bb_ BK9 hb
  replace HB := Aside0.mk (below_step bl_ hb)
  clear hb ho0
  obtain ⟨Ao9, co9, eo9⟩ := Kd.R_slice HO.out
  subst eo9
  refine hK.out _ _ ⟨bc_ BK9.out 0, bc_ BK8.out 0, bc_ BK3.out 0⟩ (fun hHeld => ?_)
  clear hK K
  refine norm_ nn_ ?_
  refine pu_ 8 (some 13) (hy := Or.inl ⟨by rfl, by intro w'; go_simp; simp [Instr.field, hu28, Sem.run, underlying]; rfl⟩) (h := ?_)
  refine pu_ 9 (some 14) (h := ?_)
  refine pu_ 13 (some 18) (h := ?_)
  refine pu_ 14 (some 19) (h := ?_)
  refine pu_ 15 (some 4) (h := ?_)
  refine done_ (done_of HT_.out (by kernel_rfl)) ?_
  try go_wp2
  go_ret
  exact ⟨ng_, bl_⟩
/-! ### the calls of slices.ContainsFunc with the two closures -/
def impl_conL.f (k : Nat) (m : List Int) (l : List S28) : Option Bool := (idxO (fun o : S28 => impl_MinimalOf_2.f k o.f0 m) l 0).bind fun i => some (decide (i ≥ 0))
def impl_conS.f (k : Nat) (m : List Int) (l : List S28) : Option Bool := (idxO (fun o : S28 => impl_MinimalOf_1.f k o.f0 m) l 0).bind fun i => some (decide (i ≥ 0))
theorem impl_conL.mono (a0 : List Int) (a1 : List S28) (k : Nat) : LeO (impl_conL.f k a0 a1) (impl_conL.f (k + 1) a0 a1) := LeO.bind (idxO_le (fun g => impl_MinimalOf_2.mono _ _ _) _ _) (fun _ => LeO.refl _)
theorem impl_conS.mono (a0 : List Int) (a1 : List S28) (k : Nat) : LeO (impl_conS.f k a0 a1) (impl_conS.f (k + 1) a0 a1) := LeO.bind (idxO_le (fun g => impl_MinimalOf_1.mono _ _ _) _ _) (fun _ => LeO.refl _)
theorem impl_conL.has (k : Nat) (A : Option Addr) (c : Nat) (l : List S28) (A1 : Option Addr) (c1 : Nat) (m : List Int) (g8 g9 : Nat) (b : Bool) (W : World) (hf : W.heap[g9]? = some (.cells #[.func (.func 65) #[] #[.pointer (some ⟨g8, 0, none⟩)]] 76 (0, 0))) (hg : W.heap[g8]? = some (.cells #[.slice A1 m.length c1] 28 (0, 0))) (hm : Kd.C (Kd.int .i64) W A1 m.length m) (hmc : m.length ≤ c1) (hr : Kd.C k28 W A l.length l) (h : impl_conL.f k m l = some b) :
  Calls Try.prog 67 #[.slice A l.length c, .func (.func 68) #[] #[.pointer (some ⟨g9, 0, none⟩), .pointer (some ⟨g8, 0, none⟩)]] W fun e w' => e = .returned (.bool b) ∧ Below W.heap.size W w' := by
 obtain ⟨i, hi, hb⟩ := Option.bind_eq_some_iff.mp h
 obtain rfl := Option.some.inj hb
 have eg : ∀ args w, (callFunc 68 args).run Try.prog w = .ok (.enter 68 args) w := enters_of Try.func68 (by kernel_rfl) rfl
 exact conT28.any 68 #[.pointer (some ⟨g9, 0, none⟩), .pointer (some ⟨g8, 0, none⟩)] eg (fun o => impl_MinimalOf_2.f k o.f0 m) A c l i W (fun x b W1 A0 c0 hp hB hl hr1 => impl_MinimalOf_2.gives k A0 c0 x.f0 A1 c1 m g8 g9 b W1 (blk_below hf hB) (blk_below hg hB) hl hr1 hmc (Kd.C_below hm hB) hp) hr hi
theorem impl_conS.has (k : Nat) (A : Option Addr) (c : Nat) (l : List S28) (A1 : Option Addr) (c1 : Nat) (m : List Int) (g8 : Nat) (b : Bool) (W : World) (hg : W.heap[g8]? = some (.cells #[.slice A1 m.length c1] 28 (0, 0))) (hm : Kd.C (Kd.int .i64) W A1 m.length m) (hmc : m.length ≤ c1) (hr : Kd.C k28 W A l.length l) (h : impl_conS.f k m l = some b) :
  Calls Try.prog 67 #[.slice A l.length c, .func (.func 65) #[] #[.pointer (some ⟨g8, 0, none⟩)]] W fun e w' => e = .returned (.bool b) ∧ Below W.heap.size W w' := by
 obtain ⟨i, hi, hb⟩ := Option.bind_eq_some_iff.mp h
 obtain rfl := Option.some.inj hb
 have eg : ∀ args w, (callFunc 65 args).run Try.prog w = .ok (.enter 65 args) w := enters_of Try.func65 (by kernel_rfl) rfl
 exact conT28.any 65 #[.pointer (some ⟨g8, 0, none⟩)] eg (fun o => impl_MinimalOf_1.f k o.f0 m) A c l i W (fun x b W1 A0 c0 hp hB hl hr1 => impl_MinimalOf_1.calls k A0 c0 x.f0 A1 c1 m b W1 hr1 hl (Kd.C_below hm hB) hmc hp (hbk_ := blk_below hg hB)) hr hi

/-! ### impl_MinimalOf: function 42 -/
def impl_MinimalOf.l0 : Nat → Int → List (S28) → List (S28) → List (S28) → Int → Int → Option ((List (S28)) × Bool)
 | 0, _, _, _, _, _, _ => none
 | k + 1, x0, x1, x6, x16, x17, x18 => if x18 < x17 then (if 0 ≤ x18 then (if x18 < (x16.length : Int) then ((impl_conL.f k ((rd_T28 x16 x18).f0) x1).bind fun t207 => (if t207 = true then (impl_MinimalOf.l0 k x0 x1 x6 x16 x17 (wrap64 (x18 + 1))) else ((impl_conS.f k ((rd_T28 x16 x18).f0) x6).bind fun t208 => (if t208 = true then (impl_MinimalOf.l0 k x0 x1 x6 x16 x17 (wrap64 (x18 + 1))) else ((some (([] : List Int) : List Int)).bind fun y209 => (if y209.length + ((rd_T28 x16 x18).f0).length < 17592186044416 then (if x6.length < 5864062014805 then (impl_MinimalOf.l0 k x0 x1 (x6 ++ [(⟨(y209 ++ ((rd_T28 x16 x18).f0))⟩ : S28)]) x16 x17 (wrap64 (x18 + 1))) else (none)) else (none))))))) else (none)) else (none)) else (some (x6, true))
def impl_MinimalOf.f (k : Nat) (a0 : Int) (l1 : List (S28)) : Option ((List (S28)) × Bool) := (impl_areGroups.f k a0 l1).bind fun t201 => (if t201 = true then (impl_MinimalOf.l0 k a0 l1 (([] : List (S28))) l1 (l1.length : Int) 0) else (some (([] : List (S28)), false)))
theorem impl_MinimalOf.mono_l : ∀ k, (∀ y0 y1 y2 y3 y4 y5, LeO (impl_MinimalOf.l0 k y0 y1 y2 y3 y4 y5) (impl_MinimalOf.l0 (k + 1) y0 y1 y2 y3 y4 y5))
 | 0 => fun _ _ _ _ _ _ r h => by simp [impl_MinimalOf.l0] at h
 | k + 1 => by
  have ih0 := impl_MinimalOf.mono_l k
  ·intro y0 y1 y2 y3 y4 y5
   unfold impl_MinimalOf.l0
   repeat' first
   | (with_reducible exact ih0 _ _ _ _ _ _)
   | (with_reducible exact impl_areGroups.mono _ _ _)
   | (with_reducible exact impl_conL.mono _ _ _)
   | (with_reducible exact impl_conS.mono _ _ _)
   | (with_reducible exact LeO.refl _)
   | (with_reducible exact LeO.none _)
   | (with_reducible refine LeO.ite ?_ ?_)
   | (with_reducible refine LeO.bind ?_ (fun _ => ?_))
   | exact ih0 _ _ _ _ _ _
   | exact impl_areGroups.mono _ _ _
   | exact LeO.none _
   | refine LeO.ite ?_ ?_
   | refine LeO.bind ?_ (fun _ => ?_)
theorem impl_MinimalOf.mono : ∀ a0 a1 k, LeO (impl_MinimalOf.f k a0 a1) (impl_MinimalOf.f (k + 1) a0 a1) := by
 intro a0 a1 k
 have ih0 := impl_MinimalOf.mono_l k
 unfold impl_MinimalOf.f
 repeat' first
   | (with_reducible exact ih0 _ _ _ _ _ _)
   | (with_reducible exact impl_areGroups.mono _ _ _)
   | (with_reducible exact impl_conL.mono _ _ _)
   | (with_reducible exact impl_conS.mono _ _ _)
   | (with_reducible exact LeO.refl _)
   | (with_reducible exact LeO.none _)
   | (with_reducible refine LeO.ite ?_ ?_)
   | (with_reducible refine LeO.bind ?_ (fun _ => ?_))
   | exact ih0 _ _ _ _ _ _
   | exact impl_areGroups.mono _ _ _
   | exact LeO.none _
   | refine LeO.ite ?_ ?_
   | refine LeO.bind ?_ (fun _ => ?_)
set_option maxHeartbeats 8000000 in
set_option maxRecDepth 100000 in
theorem impl_MinimalOf.calls (k : Nat) (a0 : Int) (A1 : Option Addr) (c1 : Nat) (l1 : List (S28)) (r1 : List (S28)) (r2 : Bool) (w : World) (hr1 : Kd.C k28 w A1 l1.length l1) (hc1 : l1.length ≤ c1) (h : impl_MinimalOf.f k a0 l1 = some (r1, r2)) :
  Calls Try.prog 42 #[.int .i64 a0, .slice A1 l1.length c1] w fun e w' => ∃ v0_ : Value, e = .returned (.tuple #[v0_, .bool r2]) ∧ Kd.S k28 28 w' w.heap.size (fun _ => True) v0_ r1 ∧ Below w.heap.size w w' := by
 have hu28 := Try.underlying28
 have HR1 := Aside0.mk hr1
 have HC1 := Aside0.mk hc1
 clear hr1 hc1
 have HB := Aside0.mk (Below.refl w.heap.size w)
 have H : ((impl_areGroups.f k a0 l1).bind fun t201 => (if t201 = true then (impl_MinimalOf.l0 k a0 l1 (([] : List (S28))) l1 (l1.length : Int) 0) else (some (([] : List (S28)), false)))) = some (r1, r2) := h
 clear h
 replace H := Option.bind_eq_some_iff.mp H
 obtain ⟨t201, A30, H⟩ := H
 replace H : (if t201 = true then (impl_MinimalOf.l0 k a0 l1 (([] : List (S28))) l1 (l1.length : Int) 0) else (some (([] : List (S28)), false))) = some (r1, r2) := H
 have A3 := Aside0.mk A30
 clear A30
 by_cases c4 : t201 = true
 rotate_left
 ·replace c4 := Bool.eq_false_iff.mpr c4
  subst c4
  have H1 : (some (([] : List (S28)), false)) = some (r1, r2) := by rw [if_neg (show ¬ (false = true) by decide)] at H; exact H
  clear H
  have H := H1
  clear H1
  simp only [Option.some.injEq, Prod.mk.injEq] at H
  obtain ⟨rfl, rfl⟩ := H
  go_enter Try.func42, Try.ntmps42
  go_wp2_with (first | ((with_reducible refine gate_callee (f := 63) rfl ?_); refine goesL_ (some 13) rfl rfl Try.func63 (by kernel_rfl) rfl #[.int .i64 a0, .slice A1 l1.length c1] rfl nc_ ?_; (with_reducible refine (impl_areGroups.calls k a0 _ _ l1 false _ ?side1 ?side2 A3.out).mono ?_); (case side1 => exact kc_ HR1.out); (case side2 => exact HC1.out); rintro e w36 ⟨rfl, hb⟩; refine ⟨_, rfl, ?_⟩; replace HB := Aside0.mk (below_step bl_ hb); clear hb))
  go_ret2
  exact ⟨_, ng_, by first | exact Kd.S_nil _ _ _ _ _ | exact Kd.N_nil _ _ _ _ _ | exact Kd.V_nil _ _ _ _ _ | exact Kd.Q_nil _ _ _ _ _ | exact Kd.R_nil _ _ _ _ _, bl_⟩
 subst c4
 have H1 : (impl_MinimalOf.l0 k a0 l1 (([] : List (S28))) l1 (l1.length : Int) 0) = some (r1, r2) := by rw [if_pos rfl] at H; exact H
 clear H
 have H := H1
 clear H1
 obtain ⟨y202, hy202⟩ : ∃ y_ : List (S28), y_ = (([] : List (S28))) := ⟨_, rfl⟩
 replace H : (impl_MinimalOf.l0 k a0 l1 y202 l1 (l1.length : Int) 0) = some (r1, r2) := by first | (rw [hy202]; with_reducible exact H) | (have H2_ := (Option.bind_some _ _).symm.trans H; rw [hy202]; with_reducible exact H2_) | (have H2_ := (Option.bind_some _ _).symm.trans H; with_reducible exact H2_) | with_reducible exact H | (rw [hy202]; exact H) | exact H
 have Ny202 := Aside0.mk hy202
 clear hy202
 have H' := Aside0.mk H
 clear H
 go_enter Try.func42, Try.ntmps42
 go_wp2_with (first | ((with_reducible refine gate_callee (f := 63) rfl ?_); refine goesL_ (some 13) rfl rfl Try.func63 (by kernel_rfl) rfl #[.int .i64 a0, .slice A1 l1.length c1] rfl nc_ ?_; (with_reducible refine (impl_areGroups.calls k a0 _ _ l1 true _ ?side1 ?side2 A3.out).mono ?_); (case side1 => exact kc_ HR1.out); (case side2 => exact HC1.out); rintro e w5 ⟨rfl, hb⟩; refine ⟨_, rfl, ?_⟩; replace HB := Aside0.mk (below_step bl_ hb); clear hb) | ((with_reducible refine gate_dst (N := 15) rfl ?_); refine Kd.S_lit k28 _ 28 rfl (N := 15) rfl (xs := ([] : List (S28))) (inner := []) (ok := fun _ => True) (okp := fun _ => True) gs_ ?hp (fun _ hk => hk) trivial (Below.refl _ _) (Nat.le_refl _) (by simp) ?_; (case hp => exact (Reps.none _ _)); intro v203 w6 ho7 hb hg_ hnew_; clear hg_ hnew_; (first | rw [← Ny202.out] at ho7 | (simp only [Int.reduceToNat] at ho7; rw [← Ny202.out] at ho7)); have HO204 := Aside0.mk (Kd.S_lower ho7 bz_); replace HB := Aside0.mk (below_step bl_ hb); clear hb ho7))
 go_loopg [6, 18] k (fun kq v6 v18 w' => ∃ (x6_1 : List (S28)) (x18_1 : Int), v18 = .int .i64 x18_1 ∧ Aside0 (impl_MinimalOf.l0 kq a0 l1 x6_1 l1 (l1.length : Int) x18_1 = some (r1, r2)) ∧ Aside0 (kq ≤ k) ∧ Aside0 (Kd.S k28 28 w' w.heap.size (fun _ => True) v6 x6_1) ∧ Aside0 (Below w.heap.size w w'))
 case atStart => exact ⟨(y202), (0), (by first | rfl | (simp; done) | (simp [*]; done)), H', ⟨Nat.le_refl _⟩, ⟨by (with_reducible repeat (first | apply Kd.S_alloc | apply Kd.S_drewN | apply Kd.S_drew)); exact HO204.out⟩, ⟨bl_⟩⟩
 clear H'
 try clear c1
 try clear p2
 try clear c4
 try clear c6
 obtain ⟨x6_1, x18_1, rfl, HA, HK1, HO_6, HB⟩ := hrel
 cases gk with
 | zero => exact absurd HA.out (by simp [impl_MinimalOf.l0])
 | succ k1 => ?_
 have H := HA.out
 clear HA
 simp only [impl_MinimalOf.l0] at H
 by_cases c8 : x18_1 < (l1.length : Int)
 rotate_left
 ·rw [if_neg c8] at H
  have c8b0 : decide (x18_1 < (l1.length : Int)) = false := decide_eq_false c8
  clear c8
  simp only [Option.some.injEq, Prod.mk.injEq] at H
  obtain ⟨rfl, rfl⟩ := H
  go_wp2
  go_ret2
  exact ⟨_, ng_, by (with_reducible repeat (first | apply Kd.S_alloc | apply Kd.S_drewN | apply Kd.S_drew)); exact HO_6.out, bl_⟩
 rw [if_pos c8] at H
 have c8b0 : decide (x18_1 < (l1.length : Int)) = true := decide_eq_true c8
 clear c8
 by_cases c9 : 0 ≤ x18_1
 rotate_left
 ·rw [if_neg c9] at H
  exact absurd H (by simp)
 rw [if_pos c9] at H
 have c9b0 : decide (0 ≤ x18_1) = true := decide_eq_true c9
 clear c9
 by_cases c10 : x18_1 < (l1.length : Int)
 rotate_left
 ·rw [if_neg c10] at H
  exact absurd H (by simp)
 rw [if_pos c10] at H
 have c10b0 : decide (x18_1 < (l1.length : Int)) = true := decide_eq_true c10
 clear c10
 replace H := Option.bind_eq_some_iff.mp H
 obtain ⟨t207, A110, H⟩ := H
 replace H : (if t207 = true then (impl_MinimalOf.l0 k1 a0 l1 x6_1 l1 (l1.length : Int) (wrap64 (x18_1 + 1))) else ((impl_conS.f k1 ((rd_T28 l1 x18_1).f0) x6_1).bind fun t208 => (if t208 = true then (impl_MinimalOf.l0 k1 a0 l1 x6_1 l1 (l1.length : Int) (wrap64 (x18_1 + 1))) else ((some (([] : List Int) : List Int)).bind fun y209 => (if y209.length + ((rd_T28 l1 x18_1).f0).length < 17592186044416 then (if x6_1.length < 5864062014805 then (impl_MinimalOf.l0 k1 a0 l1 (x6_1 ++ [(⟨(y209 ++ ((rd_T28 l1 x18_1).f0))⟩ : S28)]) l1 (l1.length : Int) (wrap64 (x18_1 + 1))) else (none)) else (none)))))) = some (r1, r2) := H
 have A11 := Aside0.mk A110
 clear A110
 by_cases c12 : t207 = true
 ·subst c12
  have H1 : (impl_MinimalOf.l0 k1 a0 l1 x6_1 l1 (l1.length : Int) (wrap64 (x18_1 + 1))) = some (r1, r2) := by rw [if_pos rfl] at H; exact H
  clear H
  have H := H1
  clear H1
  have H' := Aside0.mk H
  clear H
  have p205 : 0 ≤ (x18_1 : Int) := of_decide_eq_true (by first | (with_reducible assumption) | assumption)
  have q205 : x18_1 < (l1.length : Int) := of_decide_eq_true (by first | (with_reducible assumption) | assumption)
  obtain ⟨ad205, A205_0, c205_0, e205, hx205_0, hl205_0, hi205_0⟩ := at_T28 HR1.out x18_1 p205 q205
  cases e205
  replace hx205_0 := (HB.out.cell (World.block_lt_of_cell? w _ hx205_0)).trans hx205_0
  have HR205_0 := Aside0.mk hi205_0
  have HC205_0 := Aside0.mk hl205_0
  clear hi205_0 hl205_0
  replace p205 := eq_true p205
  replace q205 := eq_true q205
  go_wp2_with (first | ((with_reducible refine gate_dst (N := 8) rfl ?_); refine box_event rfl (N := 8) rfl (cs := #[.slice none 0 0]) (t := 28) gs_ ?_; intro gb206 hg w13 hbox hb; replace HO_6 := Aside0.mk (Kd.S_below (Kd.S_elderB (by (with_reducible repeat (first | apply Kd.S_alloc | apply Kd.S_drewN | apply Kd.S_drew)); exact HO_6.out) gb206 (Nat.le_of_eq hg.symm)) hb); have BK206 := Aside0.mk (hbox); have GW206 := Aside0.mk ((by rw [hg]; exact bz_ : w.heap.size ≤ gb206)); have GE206 := GW206; replace HB := Aside0.mk (below_step bl_ hb); clear hb hbox hg; have hcz14_0 : w13.cell? ⟨gb206, 0, none⟩ = some (.slice none 0 0) := bc_ BK206.out 0; have hfz14_0 := blk_frozen BK206.out 0) | ((with_reducible refine gate_dst (N := 9) rfl ?_); refine box_event rfl (N := 9) rfl (cs := #[.nilFunc]) (t := 76) gs_ ?_; intro gb9 hg w15b hbox hb; replace HO_6 := Aside0.mk (Kd.S_below (Kd.S_elderB (by (with_reducible repeat (first | apply Kd.S_alloc | apply Kd.S_drewN | apply Kd.S_drew)); exact (Kd.S_mono (Kd.S_far (p := ⟨gb206, 0, none⟩) (Kd.S_mono HO_6.out (fun k_ hk => (⟨hk, hk.2⟩ : _ ∧ k_ ≠ gb206))) (fun _ hk => hk.2) (.slice A205_0 ((rd_T28 l1 x18_1).f0).length c205_0)) (fun _ h_ => h_.1))) gb9 (Nat.le_of_eq hg.symm)) hb); have BK9 := Aside0.mk (hbox); have GW9 := Aside0.mk ((by rw [hg]; exact bz_ : w.heap.size ≤ gb9)); have NB_9 : Aside0 (gb206 ≠ gb9) := ⟨by rw [hg]; exact Nat.ne_of_lt (blk_lt (o := .cells #[.slice A205_0 ((rd_T28 l1 x18_1).f0).length c205_0] 28 (0, 0)) (by (with_reducible repeat (first | refine blk_drewN ?_ _ | refine blk_drew ?_ | refine blk_alloc ?_ _)); refine blk_put (cs := #[.slice none 0 0]) ?_ 0 _ rfl; exact kb_ BK206.out))⟩; have NB9_ : Aside0 (gb9 ≠ gb206) := ⟨NB_9.out.symm⟩; replace BK206 := Aside0.mk (blk_below (g := gb206) (o := .cells #[.slice A205_0 ((rd_T28 l1 x18_1).f0).length c205_0] 28 (0, 0)) (by (with_reducible repeat (first | refine blk_drewN ?_ _ | refine blk_drew ?_ | refine blk_alloc ?_ _)); refine blk_put (cs := #[.slice none 0 0]) ?_ 0 _ rfl; exact kb_ BK206.out) hb); replace HB := Aside0.mk (below_step bl_ hb); clear hb hbox hg; have hcz9_0 : w15b.cell? ⟨gb9, 0, none⟩ = some .nilFunc := bc_ BK9.out 0; have hfz9_0 := blk_frozen BK9.out 0) | (go_at_call 67; (with_reducible refine (impl_conL.has k1 _ _ l1 A205_0 c205_0 ((rd_T28 l1 x18_1).f0) gb206 gb9 true _ ?s1 ?s2 ?s3 ?s4 ?s5 A11.out).mono ?_); (case s1 => exact (by (with_reducible repeat (first | refine blk_drewN ?_ _ | refine blk_drew ?_ | refine blk_alloc ?_ _)); refine blk_put (cs := #[.nilFunc]) ?_ 0 _ rfl; exact kb_ BK9.out)); (case s2 => exact kz_); (case s3 => exact Kd.C_below HR205_0.out bl_); (case s4 => exact HC205_0.out); (case s5 => exact Kd.C_below HR1.out bl_); rintro e w15 ⟨rfl, hb⟩; replace HO_6 := Aside0.mk (Kd.S_below (by (with_reducible repeat (first | apply Kd.S_alloc | apply Kd.S_drewN | apply Kd.S_drew)); exact (Kd.S_mono (Kd.S_far (p := ⟨gb9, 0, none⟩) (Kd.S_mono HO_6.out (fun k_ hk => (⟨hk, hk.2⟩ : _ ∧ k_ ≠ gb9))) (fun _ hk => hk.2) (.func (.func 65) #[] #[.pointer (some ⟨gb206, 0, none⟩)])) (fun _ h_ => h_.1.1))) hb); replace BK206 := Aside0.mk (blk_below (g := gb206) (o := .cells #[.slice A205_0 ((rd_T28 l1 x18_1).f0).length c205_0] 28 (0, 0)) kz_ hb); replace BK9 := Aside0.mk (blk_below (g := gb9) (o := .cells #[.func (.func 65) #[] #[.pointer (some ⟨gb206, 0, none⟩)]] 76 (0, 0)) (by (with_reducible repeat (first | refine blk_drewN ?_ _ | refine blk_drew ?_ | refine blk_alloc ?_ _)); refine blk_put (cs := #[.nilFunc]) ?_ 0 _ rfl; exact kb_ BK9.out) hb); replace HB := Aside0.mk (below_step bl_ hb); clear hb; have hcz9b_0 : w15.cell? ⟨gb9, 0, none⟩ = some (.func (.func 65) #[] #[.pointer (some ⟨gb206, 0, none⟩)]) := bc_ BK9.out 0; have hfz9b_0 := blk_frozen BK9.out 0))
  go_roundg k1
  case measure => have := HK1.out; omega
  case rel => exact ⟨(x6_1), (wrap64 (x18_1 + 1)), (by first | rfl | (simp; done) | (simp [*]; done)), H', ⟨by have := HK1.out; omega⟩, ⟨by (with_reducible repeat (first | apply Kd.S_alloc | apply Kd.S_drewN | apply Kd.S_drew)); exact Kd.S_mono HO_6.out (fun _ hk => trivial)⟩, ⟨bl_⟩⟩
 replace c12 := Bool.eq_false_iff.mpr c12
 subst c12
 have H1 : ((impl_conS.f k1 ((rd_T28 l1 x18_1).f0) x6_1).bind fun t208 => (if t208 = true then (impl_MinimalOf.l0 k1 a0 l1 x6_1 l1 (l1.length : Int) (wrap64 (x18_1 + 1))) else ((some (([] : List Int) : List Int)).bind fun y209 => (if y209.length + ((rd_T28 l1 x18_1).f0).length < 17592186044416 then (if x6_1.length < 5864062014805 then (impl_MinimalOf.l0 k1 a0 l1 (x6_1 ++ [(⟨(y209 ++ ((rd_T28 l1 x18_1).f0))⟩ : S28)]) l1 (l1.length : Int) (wrap64 (x18_1 + 1))) else (none)) else (none))))) = some (r1, r2) := by rw [if_neg (show ¬ (false = true) by decide)] at H; exact H
 clear H
 have H := H1
 clear H1
 replace H := Option.bind_eq_some_iff.mp H
 obtain ⟨t208, A160, H⟩ := H
 replace H : (if t208 = true then (impl_MinimalOf.l0 k1 a0 l1 x6_1 l1 (l1.length : Int) (wrap64 (x18_1 + 1))) else ((some (([] : List Int) : List Int)).bind fun y209 => (if y209.length + ((rd_T28 l1 x18_1).f0).length < 17592186044416 then (if x6_1.length < 5864062014805 then (impl_MinimalOf.l0 k1 a0 l1 (x6_1 ++ [(⟨(y209 ++ ((rd_T28 l1 x18_1).f0))⟩ : S28)]) l1 (l1.length : Int) (wrap64 (x18_1 + 1))) else (none)) else (none)))) = some (r1, r2) := H
 have A16 := Aside0.mk A160
 clear A160
 by_cases c17 : t208 = true
 ·subst c17
  have H1 : (impl_MinimalOf.l0 k1 a0 l1 x6_1 l1 (l1.length : Int) (wrap64 (x18_1 + 1))) = some (r1, r2) := by rw [if_pos rfl] at H; exact H
  clear H
  have H := H1
  clear H1
  have H' := Aside0.mk H
  clear H
  have p205 : 0 ≤ (x18_1 : Int) := of_decide_eq_true (by first | (with_reducible assumption) | assumption)
  have q205 : x18_1 < (l1.length : Int) := of_decide_eq_true (by first | (with_reducible assumption) | assumption)
  obtain ⟨ad205, A205_0, c205_0, e205, hx205_0, hl205_0, hi205_0⟩ := at_T28 HR1.out x18_1 p205 q205
  cases e205
  replace hx205_0 := (HB.out.cell (World.block_lt_of_cell? w _ hx205_0)).trans hx205_0
  have HR205_0 := Aside0.mk hi205_0
  have HC205_0 := Aside0.mk hl205_0
  clear hi205_0 hl205_0
  replace p205 := eq_true p205
  replace q205 := eq_true q205
  go_wp2_with (first | ((with_reducible refine gate_dst (N := 8) rfl ?_); refine box_event rfl (N := 8) rfl (cs := #[.slice none 0 0]) (t := 28) gs_ ?_; intro gb206 hg w18 hbox hb; replace HO_6 := Aside0.mk (Kd.S_below (Kd.S_elderB (by (with_reducible repeat (first | apply Kd.S_alloc | apply Kd.S_drewN | apply Kd.S_drew)); exact HO_6.out) gb206 (Nat.le_of_eq hg.symm)) hb); have BK206 := Aside0.mk (hbox); have GW206 := Aside0.mk ((by rw [hg]; exact bz_ : w.heap.size ≤ gb206)); have GE206 := GW206; replace HB := Aside0.mk (below_step bl_ hb); clear hb hbox hg; have hcz19_0 : w18.cell? ⟨gb206, 0, none⟩ = some (.slice none 0 0) := bc_ BK206.out 0; have hfz19_0 := blk_frozen BK206.out 0) | ((with_reducible refine gate_dst (N := 9) rfl ?_); refine box_event rfl (N := 9) rfl (cs := #[.nilFunc]) (t := 76) gs_ ?_; intro gb9 hg w20b hbox hb; replace HO_6 := Aside0.mk (Kd.S_below (Kd.S_elderB (by (with_reducible repeat (first | apply Kd.S_alloc | apply Kd.S_drewN | apply Kd.S_drew)); exact (Kd.S_mono (Kd.S_far (p := ⟨gb206, 0, none⟩) (Kd.S_mono HO_6.out (fun k_ hk => (⟨hk, hk.2⟩ : _ ∧ k_ ≠ gb206))) (fun _ hk => hk.2) (.slice A205_0 ((rd_T28 l1 x18_1).f0).length c205_0)) (fun _ h_ => h_.1))) gb9 (Nat.le_of_eq hg.symm)) hb); have BK9 := Aside0.mk (hbox); have GW9 := Aside0.mk ((by rw [hg]; exact bz_ : w.heap.size ≤ gb9)); have NB_9 : Aside0 (gb206 ≠ gb9) := ⟨by rw [hg]; exact Nat.ne_of_lt (blk_lt (o := .cells #[.slice A205_0 ((rd_T28 l1 x18_1).f0).length c205_0] 28 (0, 0)) (by (with_reducible repeat (first | refine blk_drewN ?_ _ | refine blk_drew ?_ | refine blk_alloc ?_ _)); refine blk_put (cs := #[.slice none 0 0]) ?_ 0 _ rfl; exact kb_ BK206.out))⟩; have NB9_ : Aside0 (gb9 ≠ gb206) := ⟨NB_9.out.symm⟩; replace BK206 := Aside0.mk (blk_below (g := gb206) (o := .cells #[.slice A205_0 ((rd_T28 l1 x18_1).f0).length c205_0] 28 (0, 0)) (by (with_reducible repeat (first | refine blk_drewN ?_ _ | refine blk_drew ?_ | refine blk_alloc ?_ _)); refine blk_put (cs := #[.slice none 0 0]) ?_ 0 _ rfl; exact kb_ BK206.out) hb); replace HB := Aside0.mk (below_step bl_ hb); clear hb hbox hg; have hcz9_0 : w20b.cell? ⟨gb9, 0, none⟩ = some .nilFunc := bc_ BK9.out 0; have hfz9_0 := blk_frozen BK9.out 0) | (go_at_call 67; (with_reducible refine (impl_conL.has k1 _ _ l1 A205_0 c205_0 ((rd_T28 l1 x18_1).f0) gb206 gb9 false _ ?s1 ?s2 ?s3 ?s4 ?s5 A11.out).mono ?_); (case s1 => exact (by (with_reducible repeat (first | refine blk_drewN ?_ _ | refine blk_drew ?_ | refine blk_alloc ?_ _)); refine blk_put (cs := #[.nilFunc]) ?_ 0 _ rfl; exact kb_ BK9.out)); (case s2 => exact kz_); (case s3 => exact Kd.C_below HR205_0.out bl_); (case s4 => exact HC205_0.out); (case s5 => exact Kd.C_below HR1.out bl_); rintro e w20 ⟨rfl, hb⟩; replace HO_6 := Aside0.mk (Kd.S_below (by (with_reducible repeat (first | apply Kd.S_alloc | apply Kd.S_drewN | apply Kd.S_drew)); exact (Kd.S_mono (Kd.S_far (p := ⟨gb9, 0, none⟩) (Kd.S_mono HO_6.out (fun k_ hk => (⟨hk, hk.2⟩ : _ ∧ k_ ≠ gb9))) (fun _ hk => hk.2) (.func (.func 65) #[] #[.pointer (some ⟨gb206, 0, none⟩)])) (fun _ h_ => h_.1.1))) hb); replace BK206 := Aside0.mk (blk_below (g := gb206) (o := .cells #[.slice A205_0 ((rd_T28 l1 x18_1).f0).length c205_0] 28 (0, 0)) kz_ hb); replace BK9 := Aside0.mk (blk_below (g := gb9) (o := .cells #[.func (.func 65) #[] #[.pointer (some ⟨gb206, 0, none⟩)]] 76 (0, 0)) (by (with_reducible repeat (first | refine blk_drewN ?_ _ | refine blk_drew ?_ | refine blk_alloc ?_ _)); refine blk_put (cs := #[.nilFunc]) ?_ 0 _ rfl; exact kb_ BK9.out) hb); replace HB := Aside0.mk (below_step bl_ hb); clear hb; have hcz9b_0 : w20.cell? ⟨gb9, 0, none⟩ = some (.func (.func 65) #[] #[.pointer (some ⟨gb206, 0, none⟩)]) := bc_ BK9.out 0; have hfz9b_0 := blk_frozen BK9.out 0; obtain ⟨Ao21, co21, eo21⟩ := Kd.S_slice HO_6.out; subst eo21) | (go_at_call 67; (with_reducible refine (impl_conS.has k1 _ _ x6_1 A205_0 c205_0 ((rd_T28 l1 x18_1).f0) gb206 true _ ?s1 ?s2 ?s3 ?s4 A16.out).mono ?_); (case s1 => exact kb_ BK206.out); (case s2 => exact Kd.C_below HR205_0.out bl_); (case s3 => exact HC205_0.out); (case s4 => exact kc_ (Kd.S_reads' HO_6.out).2.2); rintro e w22 ⟨rfl, hb⟩; replace HO_6 := Aside0.mk (Kd.S_below (by (with_reducible repeat (first | apply Kd.S_alloc | apply Kd.S_drewN | apply Kd.S_drew)); exact HO_6.out) hb); replace BK206 := bb_ BK206 hb; replace HB := Aside0.mk (below_step bl_ hb); clear hb))
  go_roundg k1
  case measure => have := HK1.out; omega
  case rel => exact ⟨(x6_1), (wrap64 (x18_1 + 1)), (by first | rfl | (simp; done) | (simp [*]; done)), H', ⟨by have := HK1.out; omega⟩, ⟨by (with_reducible repeat (first | apply Kd.S_alloc | apply Kd.S_drewN | apply Kd.S_drew)); exact Kd.S_mono HO_6.out (fun _ hk => trivial)⟩, ⟨bl_⟩⟩
 replace c17 := Bool.eq_false_iff.mpr c17
 subst c17
 have H1 : ((some (([] : List Int) : List Int)).bind fun y209 => (if y209.length + ((rd_T28 l1 x18_1).f0).length < 17592186044416 then (if x6_1.length < 5864062014805 then (impl_MinimalOf.l0 k1 a0 l1 (x6_1 ++ [(⟨(y209 ++ ((rd_T28 l1 x18_1).f0))⟩ : S28)]) l1 (l1.length : Int) (wrap64 (x18_1 + 1))) else (none)) else (none))) = some (r1, r2) := by rw [if_neg (show ¬ (false = true) by decide)] at H; exact H
 clear H
 have H := H1
 clear H1
 obtain ⟨y209, hy209⟩ : ∃ y_ : List Int, y_ = (([] : List Int)) := ⟨_, rfl⟩
 replace H : (if y209.length + ((rd_T28 l1 x18_1).f0).length < 17592186044416 then (if x6_1.length < 5864062014805 then (impl_MinimalOf.l0 k1 a0 l1 (x6_1 ++ [(⟨(y209 ++ ((rd_T28 l1 x18_1).f0))⟩ : S28)]) l1 (l1.length : Int) (wrap64 (x18_1 + 1))) else (none)) else (none)) = some (r1, r2) := by first | (rw [hy209]; with_reducible exact H) | (have H2_ := (Option.bind_some _ _).symm.trans H; rw [hy209]; with_reducible exact H2_) | (have H2_ := (Option.bind_some _ _).symm.trans H; with_reducible exact H2_) | with_reducible exact H | (rw [hy209]; exact H) | exact H
 have Ny209 := Aside0.mk hy209
 clear hy209
 by_cases c23 : y209.length + ((rd_T28 l1 x18_1).f0).length < 17592186044416
 rotate_left
 ·rw [if_neg c23] at H
  exact absurd H (by simp)
 rw [if_pos c23] at H
 have LMc23 := Aside0.mk c23
 clear c23
 obtain ⟨y212, hy212⟩ : ∃ y_ : List Int, y_ = (y209 ++ ((rd_T28 l1 x18_1).f0)) := ⟨_, rfl⟩
 replace H : (if x6_1.length < 5864062014805 then (impl_MinimalOf.l0 k1 a0 l1 (x6_1 ++ [(⟨y212⟩ : S28)]) l1 (l1.length : Int) (wrap64 (x18_1 + 1))) else (none)) = some (r1, r2) := by first | (rw [hy212]; with_reducible exact H) | (have H2_ := (Option.bind_some _ _).symm.trans H; rw [hy212]; with_reducible exact H2_) | (have H2_ := (Option.bind_some _ _).symm.trans H; with_reducible exact H2_) | with_reducible exact H | (rw [hy212]; exact H) | exact H
 have Ny212 := Aside0.mk hy212
 clear hy212
 by_cases c24 : x6_1.length < 5864062014805
 rotate_left
 ·rw [if_neg c24] at H
  exact absurd H (by simp)
 rw [if_pos c24] at H
 have LMc24 := Aside0.mk c24
 clear c24
 obtain ⟨y215, hy215⟩ : ∃ y_ : List (S28), y_ = (x6_1 ++ [(⟨y212⟩ : S28)]) := ⟨_, rfl⟩
 replace H : (impl_MinimalOf.l0 k1 a0 l1 y215 l1 (l1.length : Int) (wrap64 (x18_1 + 1))) = some (r1, r2) := by first | (rw [hy215]; with_reducible exact H) | (have H2_ := (Option.bind_some _ _).symm.trans H; rw [hy215]; with_reducible exact H2_) | (have H2_ := (Option.bind_some _ _).symm.trans H; with_reducible exact H2_) | with_reducible exact H | (rw [hy215]; exact H) | exact H
 have Ny215 := Aside0.mk hy215
 clear hy215
 have H' := Aside0.mk H
 clear H
 have p205 : 0 ≤ (x18_1 : Int) := of_decide_eq_true (by first | (with_reducible assumption) | assumption)
 have q205 : x18_1 < (l1.length : Int) := of_decide_eq_true (by first | (with_reducible assumption) | assumption)
 obtain ⟨ad205, A205_0, c205_0, e205, hx205_0, hl205_0, hi205_0⟩ := at_T28 HR1.out x18_1 p205 q205
 cases e205
 replace hx205_0 := (HB.out.cell (World.block_lt_of_cell? w _ hx205_0)).trans hx205_0
 have HR205_0 := Aside0.mk hi205_0
 have HC205_0 := Aside0.mk hl205_0
 clear hi205_0 hl205_0
 replace p205 := eq_true p205
 replace q205 := eq_true q205
 go_wp2_with (first | ((with_reducible refine gate_dst (N := 8) rfl ?_); refine box_event rfl (N := 8) rfl (cs := #[.slice none 0 0]) (t := 28) gs_ ?_; intro gb206 hg w25 hbox hb; replace HO_6 := Aside0.mk (Kd.S_below (Kd.S_elderB (by (with_reducible repeat (first | apply Kd.S_alloc | apply Kd.S_drewN | apply Kd.S_drew)); exact HO_6.out) gb206 (Nat.le_of_eq hg.symm)) hb); have BK206 := Aside0.mk (hbox); have GW206 := Aside0.mk ((by rw [hg]; exact bz_ : w.heap.size ≤ gb206)); have GE206 := GW206; replace HB := Aside0.mk (below_step bl_ hb); clear hb hbox hg; have hcz26_0 : w25.cell? ⟨gb206, 0, none⟩ = some (.slice none 0 0) := bc_ BK206.out 0; have hfz26_0 := blk_frozen BK206.out 0) | ((with_reducible refine gate_dst (N := 9) rfl ?_); refine box_event rfl (N := 9) rfl (cs := #[.nilFunc]) (t := 76) gs_ ?_; intro gb9 hg w27b hbox hb; replace HO_6 := Aside0.mk (Kd.S_below (Kd.S_elderB (by (with_reducible repeat (first | apply Kd.S_alloc | apply Kd.S_drewN | apply Kd.S_drew)); exact (Kd.S_mono (Kd.S_far (p := ⟨gb206, 0, none⟩) (Kd.S_mono HO_6.out (fun k_ hk => (⟨hk, hk.2⟩ : _ ∧ k_ ≠ gb206))) (fun _ hk => hk.2) (.slice A205_0 ((rd_T28 l1 x18_1).f0).length c205_0)) (fun _ h_ => h_.1))) gb9 (Nat.le_of_eq hg.symm)) hb); have BK9 := Aside0.mk (hbox); have GW9 := Aside0.mk ((by rw [hg]; exact bz_ : w.heap.size ≤ gb9)); have NB_9 : Aside0 (gb206 ≠ gb9) := ⟨by rw [hg]; exact Nat.ne_of_lt (blk_lt (o := .cells #[.slice A205_0 ((rd_T28 l1 x18_1).f0).length c205_0] 28 (0, 0)) (by (with_reducible repeat (first | refine blk_drewN ?_ _ | refine blk_drew ?_ | refine blk_alloc ?_ _)); refine blk_put (cs := #[.slice none 0 0]) ?_ 0 _ rfl; exact kb_ BK206.out))⟩; have NB9_ : Aside0 (gb9 ≠ gb206) := ⟨NB_9.out.symm⟩; replace BK206 := Aside0.mk (blk_below (g := gb206) (o := .cells #[.slice A205_0 ((rd_T28 l1 x18_1).f0).length c205_0] 28 (0, 0)) (by (with_reducible repeat (first | refine blk_drewN ?_ _ | refine blk_drew ?_ | refine blk_alloc ?_ _)); refine blk_put (cs := #[.slice none 0 0]) ?_ 0 _ rfl; exact kb_ BK206.out) hb); replace HB := Aside0.mk (below_step bl_ hb); clear hb hbox hg; have hcz9_0 : w27b.cell? ⟨gb9, 0, none⟩ = some .nilFunc := bc_ BK9.out 0; have hfz9_0 := blk_frozen BK9.out 0) | (go_at_call 67; (with_reducible refine (impl_conL.has k1 _ _ l1 A205_0 c205_0 ((rd_T28 l1 x18_1).f0) gb206 gb9 false _ ?s1 ?s2 ?s3 ?s4 ?s5 A11.out).mono ?_); (case s1 => exact (by (with_reducible repeat (first | refine blk_drewN ?_ _ | refine blk_drew ?_ | refine blk_alloc ?_ _)); refine blk_put (cs := #[.nilFunc]) ?_ 0 _ rfl; exact kb_ BK9.out)); (case s2 => exact kz_); (case s3 => exact Kd.C_below HR205_0.out bl_); (case s4 => exact HC205_0.out); (case s5 => exact Kd.C_below HR1.out bl_); rintro e w27 ⟨rfl, hb⟩; replace HO_6 := Aside0.mk (Kd.S_below (by (with_reducible repeat (first | apply Kd.S_alloc | apply Kd.S_drewN | apply Kd.S_drew)); exact (Kd.S_mono (Kd.S_far (p := ⟨gb9, 0, none⟩) (Kd.S_mono HO_6.out (fun k_ hk => (⟨hk, hk.2⟩ : _ ∧ k_ ≠ gb9))) (fun _ hk => hk.2) (.func (.func 65) #[] #[.pointer (some ⟨gb206, 0, none⟩)])) (fun _ h_ => h_.1.1))) hb); replace BK206 := Aside0.mk (blk_below (g := gb206) (o := .cells #[.slice A205_0 ((rd_T28 l1 x18_1).f0).length c205_0] 28 (0, 0)) kz_ hb); replace BK9 := Aside0.mk (blk_below (g := gb9) (o := .cells #[.func (.func 65) #[] #[.pointer (some ⟨gb206, 0, none⟩)]] 76 (0, 0)) (by (with_reducible repeat (first | refine blk_drewN ?_ _ | refine blk_drew ?_ | refine blk_alloc ?_ _)); refine blk_put (cs := #[.nilFunc]) ?_ 0 _ rfl; exact kb_ BK9.out) hb); replace HB := Aside0.mk (below_step bl_ hb); clear hb; have hcz9b_0 : w27.cell? ⟨gb9, 0, none⟩ = some (.func (.func 65) #[] #[.pointer (some ⟨gb206, 0, none⟩)]) := bc_ BK9.out 0; have hfz9b_0 := blk_frozen BK9.out 0; obtain ⟨Ao28, co28, eo28⟩ := Kd.S_slice HO_6.out; subst eo28) | (go_at_call 67; (with_reducible refine (impl_conS.has k1 _ _ x6_1 A205_0 c205_0 ((rd_T28 l1 x18_1).f0) gb206 false _ ?s1 ?s2 ?s3 ?s4 A16.out).mono ?_); (case s1 => exact kb_ BK206.out); (case s2 => exact Kd.C_below HR205_0.out bl_); (case s3 => exact HC205_0.out); (case s4 => exact kc_ (Kd.S_reads' HO_6.out).2.2); rintro e w29 ⟨rfl, hb⟩; replace HO_6 := Aside0.mk (Kd.S_below (by (with_reducible repeat (first | apply Kd.S_alloc | apply Kd.S_drewN | apply Kd.S_drew)); exact HO_6.out) hb); replace BK206 := bb_ BK206 hb; replace HB := Aside0.mk (below_step bl_ hb); clear hb) | ((with_reducible refine gate_dst (N := 35) rfl ?_); refine Kd.R_lit (Kd.int .i64) _ 3 rfl (N := 35) rfl (xs := ([] : List Int)) (inner := []) (ok := fun _ => True) (okp := fun _ => True) gs_ ?hp (fun _ hk => hk) trivial (Below.refl _ _) (Nat.le_refl _) (by simp) ?_; (case hp => exact (Reps.none _ _)); intro v210 w30 ho31 hb hg_ hnew_; clear hg_ hnew_; (first | rw [← Ny209.out] at ho31 | (simp only [Int.reduceToNat] at ho31; rw [← Ny209.out] at ho31)); replace HO_6 := Aside0.mk (Kd.S_elder' (by (with_reducible repeat (first | apply Kd.S_alloc | apply Kd.S_drewN | apply Kd.S_drew)); exact HO_6.out) (Kd.R_base ho31) hb); have HO211 := Aside0.mk (Kd.R_lower ho31 bz_); replace BK206 := bb_ BK206 hb; replace HB := Aside0.mk (below_step bl_ hb); clear hb ho31; have hcz32_0 : w30.cell? ⟨gb206, 0, none⟩ = some (.slice A205_0 ((rd_T28 l1 x18_1).f0).length c205_0) := bc_ BK206.out 0; have hfz32_0 := blk_frozen BK206.out 0) | ((with_reducible refine gate_builtin (b := .append) (xs := #[.tmp 35, .tmp 37]) rfl ?_); at_builtin; refine Kd.R_append_rows (Kd.int .i64) (w0 := w) w.heap.size rfl (.tmp 35) (.tmp 37) 22 3 (.int .i64 0) 8 rfl Try.underlying22 info3 rfl (by decide) (by omega) v210 y209 ((rd_T28 l1 x18_1).f0) _ _ _ (fun _ => True) (fun _ => False) rfl rfl ?aO ?aR (fun _ _ h => h) (fun _ h => h.elim) ?aF ?aB ?aS ?aL ?_; (case aR => exact kc_ (Kd.C_below HR205_0.out HB.out)); (case aB => exact bl_); (case aF => exact (fun _ _ => trivial)); (case aO => exact (kr_ HO211.out)); (case aS => exact bz_); (case aL => have := LMc23.out; omega); intro v213 w33 ho hb hg hat; rw [← Ny212.out] at ho; replace HO_6 := Aside0.mk (Kd.S_after (ok := (fun k_ => k_ ≠ gb206)) (by (with_reducible repeat (first | apply Kd.S_alloc | apply Kd.S_drewN | apply Kd.S_drew)); exact Kd.S_mono HO_6.out (fun _ hk => ⟨hk.1.2, hk.2⟩)) hg hat); replace BK206 := bgr_ BK206 hg HO211 BK206; replace HB := Aside0.mk (hb); have HO214 := Aside0.mk (ho); clear HO211 ho hb hg hat; obtain ⟨Ao34, co34, eo34⟩ := Kd.R_slice HO214.out; subst eo34) | ((with_reducible refine gate_builtin (b := .append) (xs := #[.tmp 34, .tmp 40]) rfl ?_); at_builtin; refine Kd.S_append k28 (w0 := w) w.heap.size rfl (.tmp 34) (.tmp 40) 54 28 (.agg #[(.slice none 0 0)]) 24 rfl Try.underlying54 info28 rfl (by decide) (by omega) (.slice Ao28 x6_1.length co28) x6_1 (⟨y212⟩ : S28) [.slice Ao34 y212.length co34] (fun k_ => k_ ≠ gb206) (fun k_ => some k_ = (.slice Ao34 y212.length co34 : Value).ownBlock) rfl rfl ?aP (fun k_ hk_ => ((Kd.R_mono (ok' := fun k_ => ((fun k_ => k_ ≠ gb206)) k_ ∧ some k_ ≠ (.slice Ao28 x6_1.length co28 : Value).ownBlock) (Kd.R_types (Kd.R_apart' (HO214.out) (Kd.S_typed HO_6.out) (by decide)) BK206.out (by decide)) (fun k_ hk => ⟨hk.2, hk.1.2⟩))).1 k_ hk_.symm) ?aF ?aO ?aB ?aS ?aL ?_; (case aP => exact k28_mkM _ _ _ (⟨y212⟩ : S28) (Kd.R_mono (Kd.R_tight rfl (Kd.R_mono (ok' := fun k_ => ((fun k_ => k_ ≠ gb206)) k_ ∧ some k_ ≠ (.slice Ao28 x6_1.length co28 : Value).ownBlock) (Kd.R_types (Kd.R_apart' (HO214.out) (Kd.S_typed HO_6.out) (by decide)) BK206.out (by decide)) (fun k_ hk => ⟨hk.2, hk.1.2⟩))) (fun _ h_ => h_))); (case aB => exact bl_); (case aF => exact (fun k_ hk => Kd.freshB (kb_ BK206.out) k_ hk)); (case aO => exact (by (with_reducible repeat (first | apply Kd.S_alloc | apply Kd.S_drewN | apply Kd.S_drew)); exact Kd.S_mono HO_6.out (fun k_ hk => ⟨hk.1, fun e_ => hk.2 e_⟩))); (case aS => exact bz_); (case aL => have := LMc24.out; omega); intro v216 w35 ho hb hg hat; rw [← Ny215.out] at ho; replace BK206 := Aside0.mk (blk_grown (kb_ BK206.out) hg (Kd.S_away HO_6.out (fun _ hk => hk.1))); replace HB := Aside0.mk (hb); have HO217 := Aside0.mk (ho); clear HO_6 HO214 ho hb hg hat))
 go_roundg k1
 case measure => have := HK1.out; omega
 case rel => exact ⟨(y215), (wrap64 (x18_1 + 1)), (by first | rfl | (simp; done) | (simp [*]; done)), H', ⟨by have := HK1.out; omega⟩, ⟨by (with_reducible repeat (first | apply Kd.S_alloc | apply Kd.S_drewN | apply Kd.S_drew)); exact Kd.S_mono HO217.out (fun _ hk => trivial)⟩, ⟨bl_⟩⟩

end Go.Proofs.Ythbollaceiffpaa.PMO
