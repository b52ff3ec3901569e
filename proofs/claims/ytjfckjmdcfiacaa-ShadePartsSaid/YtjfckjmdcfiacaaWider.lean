/-
  ShadeWider returns true for all lists of tones and all tolerances; no condition.
-/
import Derived.Test.YtjfckjmdcfiacaaLotsLaw
namespace Go.Proofs.Ytjfckjmdcfiacaa
open Go.RowKit Go.ChangeShapes Go.WideShapes Go.ChangeAt

theorem lots_same {N : Nat → Nat → Prop} (hN : ∀ i j, N i j → N j i) {n : Nat} {X : List Int} (hx : LotsOk N n X) {i j : Nat} (hi : i < n) (hj : j < n) : X.getD i 0 = X.getD j 0 ↔ Conn N i j := by
  rw [← lots_conn hN hx hi hj]
  have h1 : i < X.length := by rw [hx.1]; exact hi
  have h2 : j < X.length := by rw [hx.1]; exact hj
  simp [List.getD, h1, h2]
theorem wider_join {L : List Tone} {tol more : Int} (hm : tol ≤ more) {X Y : List Int} (hX : LotsOk (Nr L tol) L.length X) (hY : LotsOk (Nr L more) L.length Y) {i j : Nat} (hi : i < L.length) (hj : j < L.length) (h : X.getD i 0 = X.getD j 0) : Y.getD i 0 = Y.getD j 0 :=
  (lots_same nr_symm hY hi hj).2 (conn_mono hm ((lots_same nr_symm hX hi hj).1 h))
theorem wider_all {L : List Tone} {more : Int} (hm : 2000 ≤ more) {Y : List Int} (hY : LotsOk (Nr L more) L.length Y) {i j : Nat} (hi : i < L.length) (hj : j < L.length) : Y.getD i 0 = Y.getD j 0 :=
  (lots_same nr_symm hY hi hj).2 (conn_all hm hi hj)

set_option maxRecDepth 100000 in
set_option maxHeartbeats 8000000 in
theorem wider_walk (a : Option Addr) (c : Nat) (L : List Tone) (tol more : Int) (w : World) (h : TonesAt w a L) (hm : L.length ≤ maxLen) :
    Calls Try.prog 7 #[.slice a L.length c, .int .i64 tol, .int .i64 more] w fun e w' => e = .returned (.bool true) ∧ ∃ z, w' = ext w z := by
  unfold maxLen at hm
  by_cases g1 : 20 < L.length
  · clear h
    generalize L.length = n at *
    go_enter Try.func7, Try.ntmps7
    go_wp2_with (first | (go_at_call 9; (first | (with_reducible refine (Calls.ext_of (awake_any _)).mono ?_) | refine (awake_any _).mono ?_); rintro e w' ⟨rfl, z9, rfl⟩))
    go_ret
    exact ⟨rfl, (below_ext (by repeat (first | exact Below.refl _ _ | exact Below.refl _ _ | (with_reducible refine Below.setCell ?_ (by first | omega | (simp; done) | (simp; omega)) _) | (with_reducible refine Below.alloc ?_ (by first | omega | (simp; done) | (simp; omega)) _) | (with_reducible refine Below.onDrewN ?_ _) | (with_reducible refine Below.drew ?_) | (with_reducible refine Below.ofExt ?_ (by first | omega | (simp; done) | (simp; omega))))))⟩
  · by_cases g2 : tol < 0
    · clear h
      generalize L.length = n at *
      go_enter Try.func7, Try.ntmps7
      go_wp2_with (first | (go_at_call 9; (first | (with_reducible refine (Calls.ext_of (awake_any _)).mono ?_) | refine (awake_any _).mono ?_); rintro e w' ⟨rfl, z9, rfl⟩))
      go_ret
      exact ⟨rfl, (below_ext (by repeat (first | exact Below.refl _ _ | exact Below.refl _ _ | (with_reducible refine Below.setCell ?_ (by first | omega | (simp; done) | (simp; omega)) _) | (with_reducible refine Below.alloc ?_ (by first | omega | (simp; done) | (simp; omega)) _) | (with_reducible refine Below.onDrewN ?_ _) | (with_reducible refine Below.drew ?_) | (with_reducible refine Below.ofExt ?_ (by first | omega | (simp; done) | (simp; omega))))))⟩
    · by_cases g3 : more < tol
      · clear h
        generalize L.length = n at *
        go_enter Try.func7, Try.ntmps7
        go_wp2_with (first | (go_at_call 9; (first | (with_reducible refine (Calls.ext_of (awake_any _)).mono ?_) | refine (awake_any _).mono ?_); rintro e w' ⟨rfl, z9, rfl⟩))
        go_ret
        exact ⟨rfl, (below_ext (by repeat (first | exact Below.refl _ _ | exact Below.refl _ _ | (with_reducible refine Below.setCell ?_ (by first | omega | (simp; done) | (simp; omega)) _) | (with_reducible refine Below.alloc ?_ (by first | omega | (simp; done) | (simp; omega)) _) | (with_reducible refine Below.onDrewN ?_ _) | (with_reducible refine Below.drew ?_) | (with_reducible refine Below.ofExt ?_ (by first | omega | (simp; done) | (simp; omega))))))⟩
      · obtain ⟨X, hX⟩ := lots_exist (Nr L tol) L.length
        obtain ⟨Y, hY⟩ := lots_exist (Nr L more) L.length
        have K1 := Lib.hid (fun W hW => Lots_ok a c L tol W hW (by omega) (by omega) X hX)
        have K2 := Lib.hid (fun W hW => Lots_ok a c L more W hW (by omega) (by omega) Y hY)
        have J1 := Lib.hid (fun i j (hi : i < L.length) (hj : j < L.length) (h : X.getD i 0 = X.getD j 0) => wider_join (by omega) hX hY hi hj h)
        have J2 := Lib.hid (fun i j (hi : i < L.length) (hj : j < L.length) (h : 2000 ≤ more) => wider_all h hY hi hj)
        have hXl := hX.1
        have hYl := hY.1
        have HXL := Lib.hid hXl
        have HYL := Lib.hid hYl
        have h1 := Lib.hid h
        clear h hX hY hXl hYl
        generalize L.length = n at *
        go_enter Try.func7, Try.ntmps7
        go_wp2_with fail
        refine (K1.out _ h1.out).mono ?_
        rintro e w' ⟨g, rfl, hB, z1, rfl⟩
        have hg := hB.lt
        have HB := Lib.hid hB
        clear hB
        go_wp2_with fail
        refine (K2.out _ (h1.out.below (by repeat (first | exact Below.refl _ _ | exact Below.refl _ _ | (with_reducible refine Below.setCell ?_ (by first | omega | (simp; done) | (simp; omega)) _) | (with_reducible refine Below.alloc ?_ (by first | omega | (simp; done) | (simp; omega)) _) | (with_reducible refine Below.onDrewN ?_ _) | (with_reducible refine Below.drew ?_) | (with_reducible refine Below.ofExt ?_ (by first | omega | (simp; done) | (simp; omega))))))).mono ?_
        rintro e w' ⟨g', rfl, hB, z2, rfl⟩
        have hg' := hB.lt
        have HB' := Lib.hid hB
        clear hB K1 K2
        go_wp2_with fail
        go_loopg [11] n (fun gk i wr => ∃ k : Nat, gk = n - k ∧ k ≤ n ∧ i = .int .i64 k ∧ Blk wr g 3 (ints X) ∧ Blk wr g' 3 (ints Y) ∧ Below w.heap.size w wr)
        case atStart => exact ⟨0, by omega, by omega, rfl, HB.out.ext _, HB'.out, (by repeat (first | exact Below.refl _ _ | exact Below.refl _ _ | (with_reducible refine Below.setCell ?_ (by first | omega | (simp; done) | (simp; omega)) _) | (with_reducible refine Below.alloc ?_ (by first | omega | (simp; done) | (simp; omega)) _) | (with_reducible refine Below.onDrewN ?_ _) | (with_reducible refine Below.drew ?_) | (with_reducible refine Below.ofExt ?_ (by first | omega | (simp; done) | (simp; omega)))))⟩
        case round =>
          clear HB HB' hg hg'
          obtain ⟨i, hgi, hi, rfl, hB1, hB2, hbel⟩ := hrel
          have HGI := Lib.hid hgi
          clear hgi
          by_cases hlt : i < n
          · go_wp2_with fail
            go_loopg [12] i (fun gk i1 wr => ∃ k : Nat, gk = i - k ∧ k ≤ i ∧ i1 = .int .i64 k ∧ Blk wr g 3 (ints X) ∧ Blk wr g' 3 (ints Y) ∧ Below w.heap.size w wr)
            case atStart => exact ⟨0, by omega, by omega, rfl, hB1, hB2, hbel⟩
            case round =>
              clear hB1 hB2 hbel
              obtain ⟨j, hgj, hj, rfl, hB1, hB2, hbel⟩ := hrel
              have HGJ := Lib.hid hgj
              clear hgj
              have hsz := hbel.size
              by_cases hltj : j < i
              · have xi := hB1.int (k := i) (by rw [HXL.out]; omega)
                have xj := hB1.int (k := j) (by rw [HXL.out]; omega)
                have yi := hB2.int (k := i) (by rw [HYL.out]; omega)
                have yj := hB2.int (k := j) (by rw [HYL.out]; omega)
                have i1 : (0 : Int) ≤ (i : Int) ∧ (i : Int) < (n : Int) := by omega
                have i2 : (0 : Int) ≤ (j : Int) ∧ (j : Int) < (n : Int) := by omega
                by_cases hr : Y.getD i 0 = Y.getD j 0
                · rw [hr] at yi
                  clear hr
                  by_cases hp : X.getD i 0 = X.getD j 0
                  · rw [hp] at xi
                    clear hp
                    generalize X.getD j 0 = x at *
                    generalize Y.getD j 0 = y at *
                    by_cases hq : 2000 ≤ more
                    · go_wp2_with fail
                      refine wp_region_ext (by kernel_rfl) (by kernel_rfl) ?_
                      repeat (go_big_quiet_step ((fail)))
                      refine wpQuiet_nil ?_
                      rintro _ ⟨z, rfl⟩
                      go_wp2
                      go_roundg (i - (j + 1))
                      case measure => rw [HGJ.out]; omega
                      case rel => exact ⟨j + 1, rfl, by omega, by go_num, (by repeat (first | exact hB1 | (with_reducible refine Blk.alloc ?_ _) | (with_reducible refine Blk.drewN ?_ _) | (with_reducible refine Blk.drew ?_) | (with_reducible refine Blk.ext ?_ _) | (with_reducible refine Blk.other ?_ (by first | omega | (simp; done) | (simp; omega)) _ _))), (by repeat (first | exact hB2 | (with_reducible refine Blk.alloc ?_ _) | (with_reducible refine Blk.drewN ?_ _) | (with_reducible refine Blk.drew ?_) | (with_reducible refine Blk.ext ?_ _) | (with_reducible refine Blk.other ?_ (by first | omega | (simp; done) | (simp; omega)) _ _))), (by repeat (first | exact hbel | exact Below.refl _ _ | (with_reducible refine Below.setCell ?_ (by first | omega | (simp; done) | (simp; omega)) _) | (with_reducible refine Below.alloc ?_ (by first | omega | (simp; done) | (simp; omega)) _) | (with_reducible refine Below.onDrewN ?_ _) | (with_reducible refine Below.drew ?_) | (with_reducible refine Below.ofExt ?_ (by first | omega | (simp; done) | (simp; omega)))))⟩
                    · have hqb : decide (2000 ≤ more) = false := decide_eq_false hq
                      go_wp2_with fail
                      refine wp_region_ext (by kernel_rfl) (by kernel_rfl) ?_
                      repeat (go_big_quiet_step ((fail)))
                      refine wpQuiet_nil ?_
                      rintro _ ⟨z, rfl⟩
                      go_wp2
                      go_roundg (i - (j + 1))
                      case measure => rw [HGJ.out]; omega
                      case rel => exact ⟨j + 1, rfl, by omega, by go_num, (by repeat (first | exact hB1 | (with_reducible refine Blk.alloc ?_ _) | (with_reducible refine Blk.drewN ?_ _) | (with_reducible refine Blk.drew ?_) | (with_reducible refine Blk.ext ?_ _) | (with_reducible refine Blk.other ?_ (by first | omega | (simp; done) | (simp; omega)) _ _))), (by repeat (first | exact hB2 | (with_reducible refine Blk.alloc ?_ _) | (with_reducible refine Blk.drewN ?_ _) | (with_reducible refine Blk.drew ?_) | (with_reducible refine Blk.ext ?_ _) | (with_reducible refine Blk.other ?_ (by first | omega | (simp; done) | (simp; omega)) _ _))), (by repeat (first | exact hbel | exact Below.refl _ _ | (with_reducible refine Below.setCell ?_ (by first | omega | (simp; done) | (simp; omega)) _) | (with_reducible refine Below.alloc ?_ (by first | omega | (simp; done) | (simp; omega)) _) | (with_reducible refine Below.onDrewN ?_ _) | (with_reducible refine Below.drew ?_) | (with_reducible refine Below.ofExt ?_ (by first | omega | (simp; done) | (simp; omega)))))⟩
                  · have hpb : (X.getD i 0 == X.getD j 0) = false := by rw [beq_eq_false_iff_ne]; exact hp
                    clear hp
                    generalize X.getD i 0 = x at *
                    generalize X.getD j 0 = x2 at *
                    generalize Y.getD j 0 = y at *
                    by_cases hq : 2000 ≤ more
                    · go_wp2_with fail
                      refine wp_region_ext (by kernel_rfl) (by kernel_rfl) ?_
                      repeat (go_big_quiet_step ((fail)))
                      refine wpQuiet_nil ?_
                      rintro _ ⟨z, rfl⟩
                      go_wp2
                      go_roundg (i - (j + 1))
                      case measure => rw [HGJ.out]; omega
                      case rel => exact ⟨j + 1, rfl, by omega, by go_num, (by repeat (first | exact hB1 | (with_reducible refine Blk.alloc ?_ _) | (with_reducible refine Blk.drewN ?_ _) | (with_reducible refine Blk.drew ?_) | (with_reducible refine Blk.ext ?_ _) | (with_reducible refine Blk.other ?_ (by first | omega | (simp; done) | (simp; omega)) _ _))), (by repeat (first | exact hB2 | (with_reducible refine Blk.alloc ?_ _) | (with_reducible refine Blk.drewN ?_ _) | (with_reducible refine Blk.drew ?_) | (with_reducible refine Blk.ext ?_ _) | (with_reducible refine Blk.other ?_ (by first | omega | (simp; done) | (simp; omega)) _ _))), (by repeat (first | exact hbel | exact Below.refl _ _ | (with_reducible refine Below.setCell ?_ (by first | omega | (simp; done) | (simp; omega)) _) | (with_reducible refine Below.alloc ?_ (by first | omega | (simp; done) | (simp; omega)) _) | (with_reducible refine Below.onDrewN ?_ _) | (with_reducible refine Below.drew ?_) | (with_reducible refine Below.ofExt ?_ (by first | omega | (simp; done) | (simp; omega)))))⟩
                    · have hqb : decide (2000 ≤ more) = false := decide_eq_false hq
                      go_wp2_with fail
                      refine wp_region_ext (by kernel_rfl) (by kernel_rfl) ?_
                      repeat (go_big_quiet_step ((fail)))
                      refine wpQuiet_nil ?_
                      rintro _ ⟨z, rfl⟩
                      go_wp2
                      go_roundg (i - (j + 1))
                      case measure => rw [HGJ.out]; omega
                      case rel => exact ⟨j + 1, rfl, by omega, by go_num, (by repeat (first | exact hB1 | (with_reducible refine Blk.alloc ?_ _) | (with_reducible refine Blk.drewN ?_ _) | (with_reducible refine Blk.drew ?_) | (with_reducible refine Blk.ext ?_ _) | (with_reducible refine Blk.other ?_ (by first | omega | (simp; done) | (simp; omega)) _ _))), (by repeat (first | exact hB2 | (with_reducible refine Blk.alloc ?_ _) | (with_reducible refine Blk.drewN ?_ _) | (with_reducible refine Blk.drew ?_) | (with_reducible refine Blk.ext ?_ _) | (with_reducible refine Blk.other ?_ (by first | omega | (simp; done) | (simp; omega)) _ _))), (by repeat (first | exact hbel | exact Below.refl _ _ | (with_reducible refine Below.setCell ?_ (by first | omega | (simp; done) | (simp; omega)) _) | (with_reducible refine Below.alloc ?_ (by first | omega | (simp; done) | (simp; omega)) _) | (with_reducible refine Below.onDrewN ?_ _) | (with_reducible refine Below.drew ?_) | (with_reducible refine Below.ofExt ?_ (by first | omega | (simp; done) | (simp; omega)))))⟩
                · have hpb : (X.getD i 0 == X.getD j 0) = false := by rw [beq_eq_false_iff_ne]; exact fun e => hr (J1.out i j (by omega) (by omega) e)
                  have hq : ¬ 2000 ≤ more := fun e => hr (J2.out i j (by omega) (by omega) e)
                  clear hr
                  generalize X.getD i 0 = x at *
                  generalize X.getD j 0 = x2 at *
                  generalize Y.getD j 0 = y at *
                  generalize Y.getD i 0 = y2 at *
                  have hqb : decide (2000 ≤ more) = false := decide_eq_false hq
                  go_wp2_with fail
                  refine wp_region_ext (by kernel_rfl) (by kernel_rfl) ?_
                  repeat (go_big_quiet_step ((fail)))
                  refine wpQuiet_nil ?_
                  rintro _ ⟨z, rfl⟩
                  go_wp2
                  go_roundg (i - (j + 1))
                  case measure => rw [HGJ.out]; omega
                  case rel => exact ⟨j + 1, rfl, by omega, by go_num, (by repeat (first | exact hB1 | (with_reducible refine Blk.alloc ?_ _) | (with_reducible refine Blk.drewN ?_ _) | (with_reducible refine Blk.drew ?_) | (with_reducible refine Blk.ext ?_ _) | (with_reducible refine Blk.other ?_ (by first | omega | (simp; done) | (simp; omega)) _ _))), (by repeat (first | exact hB2 | (with_reducible refine Blk.alloc ?_ _) | (with_reducible refine Blk.drewN ?_ _) | (with_reducible refine Blk.drew ?_) | (with_reducible refine Blk.ext ?_ _) | (with_reducible refine Blk.other ?_ (by first | omega | (simp; done) | (simp; omega)) _ _))), (by repeat (first | exact hbel | exact Below.refl _ _ | (with_reducible refine Below.setCell ?_ (by first | omega | (simp; done) | (simp; omega)) _) | (with_reducible refine Below.alloc ?_ (by first | omega | (simp; done) | (simp; omega)) _) | (with_reducible refine Below.onDrewN ?_ _) | (with_reducible refine Below.drew ?_) | (with_reducible refine Below.ofExt ?_ (by first | omega | (simp; done) | (simp; omega)))))⟩
              · obtain rfl : j = i := by omega
                go_wp2_with fail
                go_roundg (n - (j + 1))
                case measure => rw [HGI.out]; omega
                case rel => exact ⟨j + 1, rfl, by omega, by go_num, hB1, hB2, hbel⟩
          · obtain rfl : i = n := by omega
            have hsz := hbel.size
            clear hB1 hB2
            go_wp2_with (first | (go_at_call 9; (first | (with_reducible refine (Calls.ext_of (awake_any _)).mono ?_) | refine (awake_any _).mono ?_); rintro e w' ⟨rfl, z9, rfl⟩))
            go_ret
            exact ⟨rfl, (below_ext (by repeat (first | exact hbel | exact Below.refl _ _ | (with_reducible refine Below.setCell ?_ (by first | omega | (simp; done) | (simp; omega)) _) | (with_reducible refine Below.alloc ?_ (by first | omega | (simp; done) | (simp; omega)) _) | (with_reducible refine Below.onDrewN ?_ _) | (with_reducible refine Below.drew ?_) | (with_reducible refine Below.ofExt ?_ (by first | omega | (simp; done) | (simp; omega))))))⟩

set_option maxRecDepth 100000 in
theorem shadeWider_lifted (os : Os) (started : os.Started) (H : Type) (enc : TypeId × Value → H) :
    ReturnsInHanded {} Try.checked os 7 .any (Rows.shadeWiderSpec.pre6 enc Try.prog Try.f7 Rows.shadeWiderRow.domain false) (Rows.shadeWiderSpec.post enc Try.prog Try.f7 false true false false) := by
  refine returnsInHanded_of_change (C := Try.checked) own started (by kernel_rfl) Try.func7
    (ChangeSpec.witness6 (enc := enc) (C := Try.checked) false ⟨#[], #[.slice none 0 0, .int .i64 0, .int .i64 0], []⟩ 8 (by kernel_rfl) (by kernel_rfl) (by kernel_rfl) (by kernel_rfl)) ?_
  intro W base args ds gs before hval0 hW hcnd _
  have hval : ∀ (j : Nat) t v, Try.f7.params[j]? = some t → args[j]? = some v → Value.okWide Try.prog W .any base t v := hval0
  have hW' := hW
  obtain ⟨p, q, hA0, hV, rfl, hfz, hnd⟩ := hW
  have hA : DataW.TrodAll enc Try.prog W 0 (fun _ => true) true Try.f7.params.toList args.toList ds p := hA0
  rw [Try.params7] at hA hval
  obtain ⟨v0, v1, v2, d0, d1, d2, p0, p1, p2, rfl, rfl, rfl, h0, h1, h2⟩ := trodAll_three hA
  obtain ⟨a0, c0, L0, rfl, m0, r0⟩ := open_tones (hval 0 24 v0 rfl rfl) h0
  obtain ⟨x1, rfl, rfl, rfl, w1⟩ := open_int Try.underlying3 (hval 1 3 v1 rfl rfl) h1
  obtain ⟨x2, rfl, rfl, rfl, w2⟩ := open_int Try.underlying3 (hval 2 3 v2 rfl rfl) h2
  refine (wider_walk a0 c0 L0 x1 x2 W r0 m0).mono fun e W' ⟨he, z, hz⟩ => ?_
  subst he hz
  exact ⟨_, rfl, law_post rfl (by kernel_rfl) (by kernel_rfl) Try.underlying4 hW' (fun _ => ⟨rfl, rfl, rfl⟩) (ext_below _ _)⟩

theorem shadeWider_holds : Rows.ShadeWiderSaid :=
  OpenClaim.holds_of_wide 7 Try.f7 rfl rfl rfl rfl rfl rfl rfl ⟨rfl, rfl, rfl, rfl, rfl⟩ rfl rfl rfl rfl rfl (by kernel_rfl) Try.func7 (by kernel_rfl)
    (of_decide_eq_true (by kernel_rfl)) (by unfold Func.isWrapper; first | (rw [if_pos (by decide +kernel)]; kernel_rfl) | (rw [if_neg (by decide +kernel)]; exact ⟨rfl, rfl⟩))
    (fun os started H enc _ => shadeWider_lifted os started H enc)
#print axioms shadeWider_holds
end Go.Proofs.Ytjfckjmdcfiacaa
