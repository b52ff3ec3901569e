/-
  ShadeMetric returns true for all tones and every shift; no condition.
-/
import Derived.Test.YtjfckjmdcfiacaaAwk
import Derived.Test.YtjfckjmdcfiacaaOpen
import Derived.Deep.RegionHeld3
import Derived.Deep.DeepCutAuto
namespace Go.Proofs.Ytjfckjmdcfiacaa
open Go.RowKit Go.ChangeShapes Go.WideShapes Go.ChangeAt

theorem fields_of {P : Program} {t : TypeId} {fs : Array Field} (h : P.underlying t = some (.struct fs)) : P.fieldsOf t = fs := by simp only [Program.fieldsOf, h]
theorem stood23 : Try.prog.stoodInHeld 23 = false := by kernel_rfl
theorem guard23 : Try.prog.eqGuardType Try.prog.depth 23 = false := by kernel_rfl
/-- Two triples of numbers are equal. -/
def eq3 (a b c d e f : Int) : Bool := a == d && b == e && c == f
theorem eql23 (a b c d e f : Int) (w : World) : (binOp .eql 23 (.agg #[.int .i64 a, .int .i64 b, .int .i64 c]) (.agg #[.int .i64 d, .int .i64 e, .int .i64 f])).run Try.prog w = .ok (.bool (eq3 a b c d e f)) w := by
  rw [run_eql_struct, run_equalIn_struct w 9999 23 _ _ (by rw [fields_of Try.underlying23]; exact Try.underlying23) stood23, fields_of Try.underlying23]
  unfold eq3
  by_cases h1 : a = d <;> by_cases h2 : b = e <;> by_cases h3 : c = f <;> simp [Op.eqFields, go_sem, h1, h2, h3]
attribute [go_sem ↓] eql23
attribute [go_sem] guard23

/-- The components of a tone are within the limits, and so are they if they are moved by n. -/
def In1 (x n : Int) : Prop := -1000 ≤ x ∧ x ≤ 1000 - n
def In (t : Tone) (n : Int) : Prop := In1 t.l n ∧ In1 t.a n ∧ In1 t.b n
instance (x n : Int) : Decidable (In1 x n) := inferInstanceAs (Decidable (_ ∧ _))
instance (t : Tone) (n : Int) : Decidable (In t n) := inferInstanceAs (Decidable (_ ∧ _))
theorem in_dist {s t : Tone} {n : Int} (h0 : 0 ≤ n) (hs : In s n) (ht : In t n) : dist ⟨s.l + n, s.a + n, s.b + n⟩ ⟨t.l + n, t.a + n, t.b + n⟩ = dist s t := by
  have e1 : ∀ x y : Int, In1 x n → In1 y n → ap (x + n) (y + n) = ap x y := fun x y hx hy => by
    unfold In1 at hx hy
    unfold ap lm
    omega
  unfold dist
  simp only [e1 _ _ hs.1 ht.1, e1 _ _ hs.2.1 ht.2.1, e1 _ _ hs.2.2 ht.2.2]
theorem in_zero {s t : Tone} {n : Int} (h0 : 0 ≤ n) (hs : In s n) (ht : In t n) : (dist s t == 0) = eq3 s.l s.a s.b t.l t.a t.b := by
  obtain ⟨⟨a1, a2⟩, ⟨a3, a4⟩, ⟨a5, a6⟩⟩ := hs
  obtain ⟨⟨b1, b2⟩, ⟨b3, b4⟩, ⟨b5, b6⟩⟩ := ht
  unfold eq3 dist ap lm
  rw [Bool.eq_iff_iff]
  simp only [beq_iff_eq, Bool.and_eq_true]
  omega

set_option maxHeartbeats 4000000 in
theorem Inside_any (t : Tone) (n : Int) (h0 : 0 ≤ n) (h1 : n ≤ 255) (w : World) : Calls Try.prog 18 #[.agg #[.int .i64 t.l, .int .i64 t.a, .int .i64 t.b], .int .i64 n] w fun e w' => e = .returned (.bool (decide (In t n))) ∧ ∃ z, w' = ext w z := by
  go_enter Try.func18, Try.ntmps18
  go_wp2
  all_goals (go_ret; refine ⟨ret_bool ?_, (below_ext (by repeat (first | exact Below.refl _ _ | exact Below.refl _ _ | (with_reducible refine Below.setCell ?_ (by first | omega | (simp; done) | (simp; omega)) _) | (with_reducible refine Below.alloc ?_ (by first | omega | (simp; done) | (simp; omega)) _) | (with_reducible refine Below.onDrewN ?_ _) | (with_reducible refine Below.drew ?_) | (with_reducible refine Below.ofExt ?_ (by first | omega | (simp; done) | (simp; omega))))))⟩)
  all_goals first | (symm; rw [decide_eq_false_iff_not]; unfold In In1; omega) | (apply decide_eq_decide.2; unfold In In1; omega)

set_option maxRecDepth 100000 in
set_option maxHeartbeats 16000000 in
theorem metric_walk (s t u : Tone) (_fs : s.Fit) (_ft : t.Fit) (_fu : u.Fit) (n : Int) (hn : (Lit.int .u8 n).wf = true) (w : World) :
    Calls Try.prog 6 #[.agg #[.int .i64 s.l, .int .i64 s.a, .int .i64 s.b], .agg #[.int .i64 t.l, .int .i64 t.a, .int .i64 t.b], .agg #[.int .i64 u.l, .int .i64 u.a, .int .i64 u.b], .int .u8 n] w fun e w' => e = .returned (.bool true) ∧ ∃ z, w' = ext w z := by
  have hnb : 0 ≤ n ∧ n ≤ 255 := by
    simp [Lit.wf, IntKind.min, IntKind.max, IntKind.signed, IntKind.bits] at hn
    omega
  have h0 := hnb.1
  have h1 := hnb.2
  have dst := dist_bd s t
  have dtu := dist_bd t u
  have dsu := dist_bd s u
  have tri := dist_tri s t u
  have sy := Lib.hid (dist_symm t s)
  have se := Lib.hid (dist_self s)
  have sy' : (dist t s != dist s t) = false := by rw [sy.out]; simp
  have se' : (dist s s != 0) = false := by rw [se.out]; simp
  clear hn hnb
  by_cases hs : In s n
  · by_cases ht : In t n
    · have hs' : decide (In s n) = true := decide_eq_true hs
      have ht' : decide (In t n) = true := decide_eq_true ht
      have e1 := Lib.hid (in_dist h0 hs ht)
      have e2 := Lib.hid (in_zero h0 hs ht)
      have p1 : IntKind.i64.wrap (s.l + n) = s.l + n := IntWalk.i64_in _ (by have := hs.1; unfold In1 at this; omega)
      have p2 : IntKind.i64.wrap (s.a + n) = s.a + n := IntWalk.i64_in _ (by have := hs.2.1; unfold In1 at this; omega)
      have p3 : IntKind.i64.wrap (s.b + n) = s.b + n := IntWalk.i64_in _ (by have := hs.2.2; unfold In1 at this; omega)
      have p4 : IntKind.i64.wrap (t.l + n) = t.l + n := IntWalk.i64_in _ (by have := ht.1; unfold In1 at this; omega)
      have p5 : IntKind.i64.wrap (t.a + n) = t.a + n := IntWalk.i64_in _ (by have := ht.2.1; unfold In1 at this; omega)
      have p6 : IntKind.i64.wrap (t.b + n) = t.b + n := IntWalk.i64_in _ (by have := ht.2.2; unfold In1 at this; omega)
      go_enter Try.func6, Try.ntmps6
      go_wp2_with fail
      refine wp_region_ext (by kernel_rfl) (by kernel_rfl) ?_
      repeat (go_big_quiet_step ((first | (go_at_call 12; exact Calls.ext_of (Distance_any _ _ _)))))
      refine wpQuiet_nil ?_
      rintro _ ⟨z, rfl⟩
      go_upto_region 6 with (first | (go_at_call 12; (first | (with_reducible refine (Calls.ext_of (Distance_any _ _ _)).mono ?_) | refine (Distance_any _ _ _).mono ?_); rintro e w' ⟨rfl, z12, rfl⟩) | (go_at_call 9; (first | (with_reducible refine (Calls.ext_of (awake_any _)).mono ?_) | refine (awake_any _).mono ?_); rintro e w' ⟨rfl, z9, rfl⟩) | (go_at_call 18; (first | (with_reducible refine (Calls.ext_of (Inside_any _ _ h0 h1 _)).mono ?_) | refine (Inside_any _ _ h0 h1 _).mono ?_); rintro e w' ⟨rfl, z18, rfl⟩))
      go_cut [13, 14] (fun s13 s14 wx => ∃ g h : Nat, s13 = .pointer (some ⟨g, 0, none⟩) ∧ s14 = .pointer (some ⟨h, 0, none⟩) ∧ wx.cell? ⟨g, 0, none⟩ = some (.int .i64 (s.l + n)) ∧ wx.cell? ⟨g, 1, none⟩ = some (.int .i64 (s.a + n)) ∧ wx.cell? ⟨g, 2, none⟩ = some (.int .i64 (s.b + n)) ∧ wx.cell? ⟨h, 0, none⟩ = some (.int .i64 (t.l + n)) ∧ wx.cell? ⟨h, 1, none⟩ = some (.int .i64 (t.a + n)) ∧ wx.cell? ⟨h, 2, none⟩ = some (.int .i64 (t.b + n)) ∧ wx.cell? ⟨w.heap.size, 0, none⟩ = some (.int .i64 (s.l)) ∧ wx.cell? ⟨w.heap.size, 1, none⟩ = some (.int .i64 (s.a)) ∧ wx.cell? ⟨w.heap.size, 2, none⟩ = some (.int .i64 (s.b)) ∧ wx.cell? ⟨w.heap.size + 1, 0, none⟩ = some (.int .i64 (t.l)) ∧ wx.cell? ⟨w.heap.size + 1, 1, none⟩ = some (.int .i64 (t.a)) ∧ wx.cell? ⟨w.heap.size + 1, 2, none⟩ = some (.int .i64 (t.b)) ∧ Below w.heap.size w wx)
      case first =>
        clear sy se sy' se' dst dtu dsu tri
        go_region_held3 (fun w' => w'.cell? ⟨w.heap.size, 0, none⟩ = some (.int .i64 (s.l)) ∧ w'.cell? ⟨w.heap.size, 1, none⟩ = some (.int .i64 (s.a)) ∧ w'.cell? ⟨w.heap.size, 2, none⟩ = some (.int .i64 (s.b)) ∧ w'.cell? ⟨w.heap.size + 1, 0, none⟩ = some (.int .i64 (t.l)) ∧ w'.cell? ⟨w.heap.size + 1, 1, none⟩ = some (.int .i64 (t.a)) ∧ w'.cell? ⟨w.heap.size + 1, 2, none⟩ = some (.int .i64 (t.b))) (((try dsimp only); (repeat' apply And.intro) <;> ((repeat (first | rw [ext_cell_mk _ _ _ _ (by first | (simp; done) | (simp; omega))] | rw [World.cell?_alloc_past _ _ _ (by first | (simp; done) | (simp; omega))] | rw [World.cell?_drew])); simp [go_sem]))) (first | fail)
        all_goals (go_wp2_with fail; go_meet; refine ⟨_, _, rfl, rfl, ?_, ?_, ?_, ?_, ?_, ?_, ?_, ?_, ?_, ?_, ?_, ?_, ?_⟩)
        all_goals first | (simp [go_sem]; done) | exact (by repeat (first | exact Below.refl _ _ | exact Below.refl _ _ | (with_reducible refine Below.setCell ?_ (by first | omega | (simp; done) | (simp; omega)) _) | (with_reducible refine Below.alloc ?_ (by first | omega | (simp; done) | (simp; omega)) _) | (with_reducible refine Below.onDrewN ?_ _) | (with_reducible refine Below.drew ?_) | (with_reducible refine Below.ofExt ?_ (by first | omega | (simp; done) | (simp; omega)))))
      case rest =>
        obtain ⟨g, h, rfl, rfl, c1, c2, c3, c4, c5, c6, c7, c8, c9, c10, c11, c12, hb⟩ := hcut
        have K := Lib.hid (fun W => e1.out ▸ Distance_any ⟨s.l + n, s.a + n, s.b + n⟩ ⟨t.l + n, t.a + n, t.b + n⟩ W)
        have hz := World.block_lt_of_cell? _ _ c1
        have hz7 := World.block_lt_of_cell? _ _ c7
        have hz10 := World.block_lt_of_cell? _ _ c10
        simp only at hz hz7 hz10
        have hbs := hb.size
        have he2 := e2.out
        clear sy se sy' se' dst dtu dsu tri e1 e2 p1 p2 p3 p4 p5 p6
        cases he : eq3 s.l s.a s.b t.l t.a t.b with
        | true =>
          rw [he] at he2
          go_wp2_with (first | (go_at_call 12; refine (K.out _).mono ?_; rintro e w' ⟨rfl, z12, rfl⟩) | (go_at_call 9; (first | (with_reducible refine (Calls.ext_of (awake_any _)).mono ?_) | refine (awake_any _).mono ?_); rintro e w' ⟨rfl, z9, rfl⟩))
          go_ret
          exact ⟨rfl, (below_ext (by repeat (first | exact hb | exact Below.refl _ _ | (with_reducible refine Below.setCell ?_ (by first | omega | (simp; done) | (simp; omega)) _) | (with_reducible refine Below.alloc ?_ (by first | omega | (simp; done) | (simp; omega)) _) | (with_reducible refine Below.onDrewN ?_ _) | (with_reducible refine Below.drew ?_) | (with_reducible refine Below.ofExt ?_ (by first | omega | (simp; done) | (simp; omega))))))⟩
        | false =>
          rw [he] at he2
          go_wp2_with (first | (go_at_call 12; refine (K.out _).mono ?_; rintro e w' ⟨rfl, z12, rfl⟩) | (go_at_call 9; (first | (with_reducible refine (Calls.ext_of (awake_any _)).mono ?_) | refine (awake_any _).mono ?_); rintro e w' ⟨rfl, z9, rfl⟩))
          go_ret
          exact ⟨rfl, (below_ext (by repeat (first | exact hb | exact Below.refl _ _ | (with_reducible refine Below.setCell ?_ (by first | omega | (simp; done) | (simp; omega)) _) | (with_reducible refine Below.alloc ?_ (by first | omega | (simp; done) | (simp; omega)) _) | (with_reducible refine Below.onDrewN ?_ _) | (with_reducible refine Below.drew ?_) | (with_reducible refine Below.ofExt ?_ (by first | omega | (simp; done) | (simp; omega))))))⟩
    · have hs' : decide (In s n) = true := decide_eq_true hs
      have ht' : decide (In t n) = false := decide_eq_false ht
      go_enter Try.func6, Try.ntmps6
      go_wp2_with fail
      refine wp_region_ext (by kernel_rfl) (by kernel_rfl) ?_
      repeat (go_big_quiet_step ((first | (go_at_call 12; exact Calls.ext_of (Distance_any _ _ _)))))
      refine wpQuiet_nil ?_
      rintro _ ⟨z, rfl⟩
      go_wp2_with (first | (go_at_call 12; (first | (with_reducible refine (Calls.ext_of (Distance_any _ _ _)).mono ?_) | refine (Distance_any _ _ _).mono ?_); rintro e w' ⟨rfl, z12, rfl⟩) | (go_at_call 9; (first | (with_reducible refine (Calls.ext_of (awake_any _)).mono ?_) | refine (awake_any _).mono ?_); rintro e w' ⟨rfl, z9, rfl⟩) | (go_at_call 18; (first | (with_reducible refine (Calls.ext_of (Inside_any _ _ h0 h1 _)).mono ?_) | refine (Inside_any _ _ h0 h1 _).mono ?_); rintro e w' ⟨rfl, z18, rfl⟩))
      go_ret
      exact ⟨rfl, (below_ext (by repeat (first | exact Below.refl _ _ | exact Below.refl _ _ | (with_reducible refine Below.setCell ?_ (by first | omega | (simp; done) | (simp; omega)) _) | (with_reducible refine Below.alloc ?_ (by first | omega | (simp; done) | (simp; omega)) _) | (with_reducible refine Below.onDrewN ?_ _) | (with_reducible refine Below.drew ?_) | (with_reducible refine Below.ofExt ?_ (by first | omega | (simp; done) | (simp; omega))))))⟩
  · have hs' : decide (In s n) = false := decide_eq_false hs
    go_enter Try.func6, Try.ntmps6
    go_wp2_with fail
    refine wp_region_ext (by kernel_rfl) (by kernel_rfl) ?_
    repeat (go_big_quiet_step ((first | (go_at_call 12; exact Calls.ext_of (Distance_any _ _ _)))))
    refine wpQuiet_nil ?_
    rintro _ ⟨z, rfl⟩
    go_wp2_with (first | (go_at_call 12; (first | (with_reducible refine (Calls.ext_of (Distance_any _ _ _)).mono ?_) | refine (Distance_any _ _ _).mono ?_); rintro e w' ⟨rfl, z12, rfl⟩) | (go_at_call 9; (first | (with_reducible refine (Calls.ext_of (awake_any _)).mono ?_) | refine (awake_any _).mono ?_); rintro e w' ⟨rfl, z9, rfl⟩) | (go_at_call 18; (first | (with_reducible refine (Calls.ext_of (Inside_any _ _ h0 h1 _)).mono ?_) | refine (Inside_any _ _ h0 h1 _).mono ?_); rintro e w' ⟨rfl, z18, rfl⟩))
    go_ret
    exact ⟨rfl, (below_ext (by repeat (first | exact Below.refl _ _ | exact Below.refl _ _ | (with_reducible refine Below.setCell ?_ (by first | omega | (simp; done) | (simp; omega)) _) | (with_reducible refine Below.alloc ?_ (by first | omega | (simp; done) | (simp; omega)) _) | (with_reducible refine Below.onDrewN ?_ _) | (with_reducible refine Below.drew ?_) | (with_reducible refine Below.ofExt ?_ (by first | omega | (simp; done) | (simp; omega))))))⟩

set_option maxRecDepth 100000 in
theorem shadeMetric_lifted (os : Os) (started : os.Started) (H : Type) (enc : TypeId × Value → H) :
    ReturnsInHanded {} Try.checked os 6 .any (Rows.shadeMetricSpec.pre6 enc Try.prog Try.f6 Rows.shadeMetricRow.domain false) (Rows.shadeMetricSpec.post enc Try.prog Try.f6 false true false false) := by
  refine returnsInHanded_of_change (C := Try.checked) own started (by kernel_rfl) Try.func6
    (ChangeSpec.witness6 (enc := enc) (C := Try.checked) false ⟨#[], #[.agg #[.int .i64 0, .int .i64 0, .int .i64 0], .agg #[.int .i64 0, .int .i64 0, .int .i64 0], .agg #[.int .i64 0, .int .i64 0, .int .i64 0], .int .u8 0], []⟩ 8 (by kernel_rfl) (by kernel_rfl) (by kernel_rfl) (by kernel_rfl)) ?_
  intro W base args ds gs before hval0 hW hcnd _
  have hval : ∀ (j : Nat) t v, Try.f6.params[j]? = some t → args[j]? = some v → Value.okWide Try.prog W .any base t v := hval0
  have hW' := hW
  obtain ⟨p, q, hA0, hV, rfl, hfz, hnd⟩ := hW
  have hA : DataW.TrodAll enc Try.prog W 0 (fun _ => true) true Try.f6.params.toList args.toList ds p := hA0
  rw [Try.params6] at hA hval
  obtain ⟨v0, v1, v2, v3, d0, d1, d2, d3, p0, p1, p2, p3, rfl, rfl, rfl, h0, h1, h2, h3⟩ := trodAll_four hA
  obtain ⟨t0, rfl, f0⟩ := open_tone (hval 0 23 v0 rfl rfl) h0
  obtain ⟨t1, rfl, f1⟩ := open_tone (hval 1 23 v1 rfl rfl) h1
  obtain ⟨t2, rfl, f2⟩ := open_tone (hval 2 23 v2 rfl rfl) h2
  obtain ⟨x3, rfl, rfl, rfl, w3⟩ := open_int Try.underlying5 (hval 3 5 v3 rfl rfl) h3
  refine (metric_walk t0 t1 t2 f0 f1 f2 x3 w3 W).mono fun e W' ⟨he, z, hz⟩ => ?_
  subst he hz
  exact ⟨_, rfl, law_post rfl (by kernel_rfl) (by kernel_rfl) Try.underlying4 hW' (fun _ => ⟨rfl, rfl, rfl⟩) (ext_below _ _)⟩

theorem shadeMetric_holds : Rows.ShadeMetricSaid :=
  OpenClaim.holds_of_wide 6 Try.f6 rfl rfl rfl rfl rfl rfl rfl ⟨rfl, rfl, rfl, rfl, rfl⟩ rfl rfl rfl rfl rfl (by kernel_rfl) Try.func6 (by kernel_rfl)
    (of_decide_eq_true (by kernel_rfl)) (by unfold Func.isWrapper; first | (rw [if_pos (by decide +kernel)]; kernel_rfl) | (rw [if_neg (by decide +kernel)]; exact ⟨rfl, rfl⟩))
    (fun os started H enc _ => shadeMetric_lifted os started H enc)
#print axioms shadeMetric_holds
end Go.Proofs.Ytjfckjmdcfiacaa
