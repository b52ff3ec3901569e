/-
  BundleTickets returns true for all lays, bundles and places; no condition.
-/
import Derived.Test.YtpfffpajnjeoeaaOrder
namespace Go.Proofs.Ytpfffpajnjeoeaa
open Go.RowKit Go.ChangeShapes Go.WideShapes Go.ChangeAt

theorem chk_empty {Z P : List Int} (h : ChkIs Z P [] 0) : Z.length = 0 ∨ P.length = 0 := by
  by_cases c : Z.length = 0
  · exact Or.inl c
  · by_cases d : P.length = 0
    · exact Or.inr d
    · exact absurd ⟨0, 0, by omega, by omega, fun ⟨i, hi, _⟩ => by simp at hi⟩ (chk_ok h).2
set_option maxRecDepth 100000 in
set_option maxHeartbeats 16000000 in
theorem tickets_walk (y : Lay) (Z P : List Int) (a : Option Addr) (c : Nat) (B : List Bun) (w : World) (hZ : RowAt w y.sa (ints Z)) (hP : PliesAt w y.ya P) (hyc : P.length ≤ y.yc) (hz : Z.length ≤ maxLen) (hp : P.length ≤ maxLen) (hB : BunsAt w a B) (hbc : B.length ≤ c) (hm : B.length ≤ maxLen) (x : Int) (hx : (Lit.int .u8 x).wf = true) :
    Calls Try.prog 8 #[.agg #[.int .i64 y.n1, .int .i64 y.n2, .int .i64 y.n3, .int .i64 y.n4, .slice y.sa Z.length y.sc, .slice y.pa y.pn y.pc, .slice y.ya P.length y.yc], .slice a B.length c, .int .u8 x] w fun e w' => e = .returned (.bool true) ∧ ∃ z, w' = ext w z := by
  unfold maxLen at hm hz hp
  have hxb : 0 ≤ x ∧ x ≤ 255 := by
    simp [Lit.wf, IntKind.min, IntKind.max, IntKind.signed, IntKind.bits] at hx
    omega
  by_cases g1 : Z.length ≤ 12 ∧ P.length ≤ 80
  · have KL := Lib.hid (fun W => Light_yes y Z.length P.length W g1.1 g1.2)
    by_cases g2 : 100 < B.length
    · clear hZ hP hB hx hxb
      obtain ⟨n1, n2, n3, n4, sa, sc, pa, pn, pc, ya, yc⟩ := y
      dsimp only at KL ⊢
      generalize Z.length = nz at *
      generalize P.length = np at *
      generalize B.length = n at *
      go_enter Try.func8, Try.ntmps8
      go_wp2_with (first | (go_at_call 11; refine (KL.out _).mono ?_; rintro e w' ⟨rfl, z, rfl⟩) | (go_at_call 12; (first | (with_reducible refine (Calls.ext_of (alive_any _)).mono ?_) | refine (alive_any _).mono ?_); rintro e w' ⟨rfl, z9, rfl⟩))
      go_ret
      exact ⟨rfl, (below_ext (by repeat (first | exact Below.refl _ _ | exact Below.refl _ _ | (with_reducible refine Below.setCell ?_ (by first | omega | (simp; done) | (simp; omega)) _) | (with_reducible refine Below.alloc ?_ (by first | omega | (simp; done) | (simp; omega)) _) | (with_reducible refine Below.onDrewN ?_ _) | (with_reducible refine Below.drew ?_) | (with_reducible refine Below.ofExt ?_ (by first | omega | (simp; done) | (simp; omega))))))⟩
    · obtain ⟨er, hC⟩ := chk_exists Z P B
      have K1 := Lib.hid (fun W (hb : Below w.heap.size w W) => Check_any y Z P a c B W (hZ.below hb) (hP.below hb) (hB.below hb) (by omega) (by omega) (by omega) hyc hbc er hC)
      by_cases g4 : er = 0
      · subst g4
        have hacc := (chk_ok hC).1
        have KF := Lib.hid (fun (g p : Int) (i : Nat) W (hb : Below w.heap.size w W) h => Find_any a c B g p W (hB.below hb) (by omega) i true (Or.inl ⟨i, h, rfl, rfl⟩))
        have HFA := Lib.hid (fun i (hi : i < B.length) p h1 h2 => acc_find hacc hi (p := p) h1 h2)
        have HAC := Lib.hid hacc
        have HCE : Hid (B.length = 0 → Z.length = 0 ∨ P.length = 0) := Lib.hid (fun h => by
          have e : B = [] := List.eq_nil_of_length_eq_zero h
          rw [e] at hC
          exact chk_empty hC)
        have HK2 := Lib.hid (fun k (hk : k < B.length) a' c' W (hb : Below w.heap.size w W) h hc => Check_any y Z P a' c' (B.take k ++ B.drop (k + 1)) W (hZ.below hb) (hP.below hb) h (by omega) (by omega) (by simp; omega) hyc hc 20 (chk_less hC hk))
        have HB := Lib.hid hB
        obtain ⟨b, o, ha, hc⟩ := hB
        have HA := Lib.hid ha
        have HC := Lib.hid hc
        clear hZ hP hx hC ha hc hacc
        obtain ⟨n1, n2, n3, n4, sa, sc, pa, pn, pc, ya, yc⟩ := y
        dsimp only at KL K1 HK2 ⊢
        generalize hnz : Z.length = nz at *
        generalize hnp : P.length = np at *
        generalize hnb : B.length = n at *
        have HNZ := Lib.hid hnz
        have HNP := Lib.hid hnp
        have HNB := Lib.hid hnb
        clear hnz hnp hnb
        obtain ⟨i0, hi, hz0, hz1, hz2⟩ := info_parts Try.info45
        go_enter Try.func8, Try.ntmps8
        go_wp2_with (first | (go_at_call 11; refine (KL.out _).mono ?_; rintro e w' ⟨rfl, z, rfl⟩) | (go_at_call 18; refine (K1.out _ (by repeat (first | exact Below.refl _ _ | exact Below.refl _ _ | (with_reducible refine Below.setCell ?_ (by first | omega | (simp; done) | (simp; omega)) _) | (with_reducible refine Below.alloc ?_ (by first | omega | (simp; done) | (simp; omega)) _) | (with_reducible refine Below.onDrewN ?_ _) | (with_reducible refine Below.drew ?_) | (with_reducible refine Below.ofExt ?_ (by first | omega | (simp; done) | (simp; omega)))))).mono ?_; rintro e w' ⟨rfl, z2, rfl⟩))
        have HLB := Lib.hid (lay_box2 (w := w) (z1 := z) (z2 := z2) (X := .cells #[.int .i64 n1, .int .i64 n2, .int .i64 n3, .int .i64 n4, .slice sa nz sc, .slice pa pn pc, .slice ya np yc] 30))
        have hW1 : Below w.heap.size w (ext (ext (w.alloc (.cells #[.int .i64 n1, .int .i64 n2, .int .i64 n3, .int .i64 n4, .slice sa nz sc, .slice pa pn pc, .slice ya np yc] 30)) z) z2) := (by repeat (first | exact Below.refl _ _ | exact Below.refl _ _ | (with_reducible refine Below.setCell ?_ (by first | omega | (simp; done) | (simp; omega)) _) | (with_reducible refine Below.alloc ?_ (by first | omega | (simp; done) | (simp; omega)) _) | (with_reducible refine Below.onDrewN ?_ _) | (with_reducible refine Below.drew ?_) | (with_reducible refine Below.ofExt ?_ (by first | omega | (simp; done) | (simp; omega)))))
        generalize ext (ext (w.alloc (.cells #[.int .i64 n1, .int .i64 n2, .int .i64 n3, .int .i64 n4, .slice sa nz sc, .slice pa pn pc, .slice ya np yc] 30)) z) z2 = W1 at *
        have hl0 := lay_some HLB.out
        go_loopg [7] n (fun gk i wr => ∃ j : Nat, gk = n - j ∧ j ≤ n ∧ i = .int .i64 j ∧ Below W1.heap.size W1 wr)
        case atStart => exact ⟨0, by omega, by omega, rfl, Below.refl _ _⟩
        case round =>
          obtain ⟨j, hgj, hj, rfl, hbel⟩ := hrel
          have HG := Lib.hid hgj
          clear hgj
          have hold : Below w.heap.size w wr := hW1.trans (hbel.mono hW1.size)
          have hsz := hold.size
          have hszW := hbel.size
          obtain ⟨hls, l0, l1, l2, l3, l4, l5, l6⟩ := lay_full ((hbel.block w.heap.size hl0.1).trans HLB.out)
          by_cases hlt : j < n
          · obtain ⟨rfl, hbl⟩ := HA.out (by omega)
            obtain ⟨c0, c1, c2, c3, c4, c5⟩ := HC.out j hlt
            rw [← hold.cell (by exact hbl)] at c0 c1 c2 c3 c4 c5
            have hbad := (HAC.out j hlt).1.1
            unfold Bad at hbad
            rw [HNZ.out, HNP.out] at hbad
            obtain ⟨fn, hfn⟩ := Int.eq_ofNat_of_zero_le (show 0 ≤ (bn B j).f by omega)
            obtain ⟨on, hon⟩ := Int.eq_ofNat_of_zero_le (show 0 ≤ (bn B j).o by omega)
            have hfo : fn < on := by omega
            have hop : on ≤ np := by omega
            clear hbad
            have HFN := Lib.hid hfn
            have HON := Lib.hid hon
            rw [hfn] at c4
            rw [hon] at c5
            clear hfn hon
            have i1 : (0 : Int) ≤ (j : Int) ∧ (j : Int) < (n : Int) := by omega
            generalize hu : bn B j = u at *
            have HU := Lib.hid hu
            clear hu
            go_wp2_with fail
            go_loopg [8] (on - fn) (fun gk i1 wr => ∃ p : Nat, gk = on - p ∧ fn ≤ p ∧ p ≤ on ∧ i1 = .int .i64 p ∧ Below W1.heap.size W1 wr)
            case atStart => exact ⟨fn, by omega, by omega, by omega, rfl, hbel⟩
            case round =>
              clear hbel hold hsz hszW hls l0 l1 l2 l3 l4 l5 l6
              clear c0 c1 c2 c3 c4 c5
              obtain ⟨p, hgp, hfp, hpo, rfl, hbel⟩ := hrel
              have HP := Lib.hid hgp
              clear hgp
              have hold : Below w.heap.size w wr := hW1.trans (hbel.mono hW1.size)
              have hsz := hold.size
              have hszW := hbel.size
              obtain ⟨hls, l0, l1, l2, l3, l4, l5, l6⟩ := lay_full ((hbel.block w.heap.size hl0.1).trans HLB.out)
              obtain ⟨c0, c1, c2, c3, c4, c5⟩ := HC.out j hlt
              rw [← hold.cell (by exact hbl), HU.out] at c0 c1 c2 c3 c4 c5
              rw [HFN.out] at c4
              rw [HON.out] at c5
              by_cases hltp : p < on
              · have KF2 := Lib.hid (fun W hb => KF.out u.g p j W hb (by rw [← HU.out]; exact HFA.out j hlt p (by rw [HU.out, HFN.out]; omega) (by rw [HU.out, HON.out]; omega)))
                have x1 : (p : Int) < (on : Int) := by omega
                have x2 : (p : Int) < (np : Int) := by omega
                go_wp2_with fail
                refine (KF2.out _ hold).mono ?_
                rintro e w' ⟨rfl, z3, rfl⟩
                go_wp2
                go_roundg (on - (p + 1))
                case measure => rw [HP.out]; omega
                case rel => exact ⟨p + 1, rfl, by omega, by omega, by go_num, (by repeat (first | exact hbel | exact Below.refl _ _ | (with_reducible refine Below.setCell ?_ (by first | omega | (simp; done) | (simp; omega)) _) | (with_reducible refine Below.alloc ?_ (by first | omega | (simp; done) | (simp; omega)) _) | (with_reducible refine Below.onDrewN ?_ _) | (with_reducible refine Below.drew ?_) | (with_reducible refine Below.ofExt ?_ (by first | omega | (simp; done) | (simp; omega)))))⟩
              · obtain rfl : p = on := by omega
                go_wp2_with fail
                go_loopg [11] j (fun gk i1 wr => ∃ k : Nat, gk = j - k ∧ k ≤ j ∧ i1 = .int .i64 k ∧ Below W1.heap.size W1 wr)
                case atStart => exact ⟨0, by omega, by omega, rfl, hbel⟩
                case round =>
                  clear hbel hold hsz hszW hls l0 l1 l2 l3 l4 l5 l6
                  clear c0 c1 c2 c3 c4 c5
                  obtain ⟨k, hgk, hk, rfl, hbel⟩ := hrel
                  have HK := Lib.hid hgk
                  clear hgk
                  have hold : Below w.heap.size w wr := hW1.trans (hbel.mono hW1.size)
                  have hsz := hold.size
                  have hszW := hbel.size
                  obtain ⟨hls, l0, l1, l2, l3, l4, l5, l6⟩ := lay_full ((hbel.block w.heap.size hl0.1).trans HLB.out)
                  obtain ⟨c0, c1, c2, c3, c4, c5⟩ := HC.out j hlt
                  rw [← hold.cell (by exact hbl), HU.out] at c0 c1 c2 c3 c4 c5
                  by_cases hltk : k < j
                  · obtain ⟨d0, d1, d2, d3, d4, d5⟩ := HC.out k (by omega)
                    rw [← hold.cell (by exact hbl)] at d0 d1 d2 d3 d4 d5
                    have htn : ((bn B k).t == u.t) = false := by
                      rw [beq_eq_false_iff_ne, ← HU.out]
                      exact ((HAC.out j hlt).2 k hltk).1
                    have i2 : (0 : Int) ≤ (k : Int) ∧ (k : Int) < (n : Int) := by omega
                    generalize bn B k = u2 at *
                    go_wp2_with fail
                    refine wp_region_ext (by kernel_rfl) (by kernel_rfl) ?_
                    repeat (go_big_quiet_step ((fail)))
                    refine wpQuiet_nil ?_
                    rintro _ ⟨z, rfl⟩
                    go_wp2
                    go_roundg (j - (k + 1))
                    case measure => rw [HK.out]; omega
                    case rel => exact ⟨k + 1, rfl, by omega, by go_num, (by repeat (first | exact hbel | exact Below.refl _ _ | (with_reducible refine Below.setCell ?_ (by first | omega | (simp; done) | (simp; omega)) _) | (with_reducible refine Below.alloc ?_ (by first | omega | (simp; done) | (simp; omega)) _) | (with_reducible refine Below.onDrewN ?_ _) | (with_reducible refine Below.drew ?_) | (with_reducible refine Below.ofExt ?_ (by first | omega | (simp; done) | (simp; omega)))))⟩
                  · go_wp2
                    go_roundg (n - (j + 1))
                    case measure => rw [HG.out]; omega
                    case rel => exact ⟨j + 1, rfl, by omega, by go_num, hbel⟩
          · obtain rfl : j = n := by omega
            by_cases h0 : j = 0
            · subst h0
              rcases HCE.out rfl with h | h
              · subst h
                go_wp2_with (first | (go_at_call 12; (first | (with_reducible refine (Calls.ext_of (alive_any _)).mono ?_) | refine (alive_any _).mono ?_); rintro e w' ⟨rfl, z9, rfl⟩))
                go_ret
                exact ⟨rfl, (below_ext (by repeat (first | exact hold | exact Below.refl _ _ | (with_reducible refine Below.setCell ?_ (by first | omega | (simp; done) | (simp; omega)) _) | (with_reducible refine Below.alloc ?_ (by first | omega | (simp; done) | (simp; omega)) _) | (with_reducible refine Below.onDrewN ?_ _) | (with_reducible refine Below.drew ?_) | (with_reducible refine Below.ofExt ?_ (by first | omega | (simp; done) | (simp; omega))))))⟩
              · subst h
                by_cases hzz : nz = 0
                · subst hzz
                  go_wp2_with (first | (go_at_call 12; (first | (with_reducible refine (Calls.ext_of (alive_any _)).mono ?_) | refine (alive_any _).mono ?_); rintro e w' ⟨rfl, z9, rfl⟩))
                  go_ret
                  exact ⟨rfl, (below_ext (by repeat (first | exact hold | exact Below.refl _ _ | (with_reducible refine Below.setCell ?_ (by first | omega | (simp; done) | (simp; omega)) _) | (with_reducible refine Below.alloc ?_ (by first | omega | (simp; done) | (simp; omega)) _) | (with_reducible refine Below.onDrewN ?_ _) | (with_reducible refine Below.drew ?_) | (with_reducible refine Below.ofExt ?_ (by first | omega | (simp; done) | (simp; omega))))))⟩
                · have hzb : ((nz : Int) == 0) = false := by rw [beq_eq_false_iff_ne]; omega
                  have hzc : (nz == 0) = false := by rw [beq_eq_false_iff_ne]; exact hzz
                  go_wp2_with (first | (go_at_call 12; (first | (with_reducible refine (Calls.ext_of (alive_any _)).mono ?_) | refine (alive_any _).mono ?_); rintro e w' ⟨rfl, z9, rfl⟩))
                  go_ret
                  exact ⟨rfl, (below_ext (by repeat (first | exact hold | exact Below.refl _ _ | (with_reducible refine Below.setCell ?_ (by first | omega | (simp; done) | (simp; omega)) _) | (with_reducible refine Below.alloc ?_ (by first | omega | (simp; done) | (simp; omega)) _) | (with_reducible refine Below.onDrewN ?_ _) | (with_reducible refine Below.drew ?_) | (with_reducible refine Below.ofExt ?_ (by first | omega | (simp; done) | (simp; omega))))))⟩
            · obtain ⟨k, hk, hkn⟩ := rem_small (x := x) (n := j) hxb.1 (by omega)
              obtain ⟨rfl, hbl⟩ := HA.out (by omega)
              have K2 := Lib.hid (fun a' c' W hb h hc => HK2.out k hkn a' c' W hb h hc)
              have hln : (B.take k ++ B.drop (k + 1)).length = k + (j - (k + 1)) := by
                rw [List.length_append, List.length_take, List.length_drop, HNB.out]
                omega
              rw [hln] at K2
              have HLD : Hid ((flat (B.drop (k + 1))).length = (j - (k + 1)) * 6) := Lib.hid (by rw [flat_len, List.length_drop, HNB.out])
              have HLT : Hid ((flat (B.take k)).length = k * 6) := Lib.hid (by rw [flat_len, List.length_take, HNB.out]; omega)
              clear hln
              have h0b : ((j : Int) == 0) = false := by rw [beq_eq_false_iff_ne]; omega
              have h0c : (j == 0) = false := by rw [beq_eq_false_iff_ne]; exact h0
              have hn0 : ¬ (j : Int) = 0 := by omega
              have HBW := Lib.hid (HB.out.below hold)
              have hk1 : (0 : Int) ≤ (k : Int) ∧ (k : Int) < (j : Int) := by omega
              have hk2 : (k : Int) ≤ (c : Int) := by omega
              have hk4 : (j : Int) ≤ (c : Int) := by omega
              have hk5 : (k : Int) + 1 ≤ (j : Int) := by omega
              have hk6 : (0 : Int) ≤ (k : Int) + 1 := by omega
              have hk7 : (0 : Int) ≤ (j : Int) := by omega
              have hkw : IntKind.i64.wrap ((k : Int) + 1) = (k : Int) + 1 := IntWalk.i64_in _ (by omega)
              have hkt : ((k : Int) + 1).toNat = k + 1 := by omega
              clear h0
              go_wp2_with fail
              have hv0 : ∀ q, (Value.slice (some ⟨wr.heap.size, 0, none⟩) 0 0).ownBlock = some q → wr.heap.size ≤ q := fun q hq => Nat.le_of_eq (by simpa [Value.ownBlock] using hq)
              have HN1 : Hid (∀ j u, (flat (B.take k))[j]? = some u → (wr.alloc (.cells #[] 45)).drew.cell? ((⟨b, o, none⟩ : Addr).add j) = some u) := Lib.hid (news_take (w := (wr.alloc (.cells #[] 45)).drew) (HBW.out.below (((Below.refl wr.heap.size wr).alloc (Nat.le_refl _) _).drew)) k)
              have hm1 : 0 + k ≤ maxLen := by unfold maxLen; omega
              have hm2 : (0 + k) * 48 ≤ 140737488355328 := by omega
              have hm3 : wr.heap.size ≤ (wr.alloc (.cells #[] 45)).drew.heap.size := by simp [World.drew]
              have hm4 : 0 + k + (j - (k + 1)) ≤ maxLen := by unfold maxLen; omega
              have hm5 : (0 + k + (j - (k + 1))) * 48 ≤ 140737488355328 := by omega
              by_cases hce : c = k + 1
              · have hd0 : B.drop (k + 1) = [] := List.drop_eq_nil_of_le (by rw [HNB.out]; omega)
                have HD0 := Lib.hid hd0
                clear hd0
                obtain ⟨q, hq⟩ : ∃ q, q = k + 1 := ⟨_, rfl⟩
                have hcq : c = q := by omega
                have hjq : j = q := by omega
                rw [show k + (j - (k + 1)) = k by omega] at K2
                have HQ := Lib.hid hq
                rw [show ((k : Int) + 1) = (q : Int) by omega] at hkw
                have hkq : (k : Int) ≤ (q : Int) := by omega
                have hkq2 : (0 : Int) ≤ (q : Int) := by omega
                have hm6 : 0 + k + 0 ≤ maxLen := by unfold maxLen; omega
                have hm7 : (0 + k + 0) * 48 ≤ 140737488355328 := by omega
                clear hk5 hk6 hkt hq hce hk2 hk4 hm4 hm5
                have hkw2 : IntKind.i64.wrap ((k : Int) + 1) = (q : Int) := by rw [show ((k : Int) + 1) = (q : Int) by have := HQ.out; omega]; exact hkw
                clear hkw
                have HNBQ : Hid (B.length = q) := Lib.hid (HNB.out.trans hjq)
                subst hcq hjq
                have HOE : Hid ((wr.alloc (.cells #[] 45)).drew.ownsRow wr.heap.size 45 6 (.slice (some ⟨wr.heap.size, 0, none⟩) 0 0) 0 []) := Lib.hid (owns_empty rfl (Nat.le_refl _))
                go_region_held3 (fun w' => True) (trivial)
                  (first
                    | (refine step_append_own (by rfl) (.tmp 112) (.tmp 115) 33 (by rfl) wr.heap.size 45 i0 (.agg #[.int .i64 0, .int .i64 0, .int .i64 0, .int .i64 0, .int .i64 0, .int .i64 0]) 6 48 Try.underlying33 hi hz0 hz1 hz2 (by rfl) (by decide) (.slice (some ⟨wr.heap.size, 0, none⟩) 0 0) 0 [] (by rfl) HOE.out ⟨b, o, none⟩ k _ (flat (B.take k)) (by rfl) HLT.out HN1.out (flat_one _) hm1 hm2 hm3 ?_; intro v1 w1 hown1 hgrow1)
                    | (refine step_append_own (by rfl) (.tmp 116) (.tmp 120) 33 (by rfl) wr.heap.size 45 i0 (.agg #[.int .i64 0, .int .i64 0, .int .i64 0, .int .i64 0, .int .i64 0, .int .i64 0]) 6 48 Try.underlying33 hi hz0 hz1 hz2 (by rfl) (by decide) v1 (0 + k) ([] ++ flat (B.take k)) (by rfl) hown1 ⟨b, o, none⟩ 0 0 [] (by rfl) (by rfl) (fun _ _ h => nomatch h) (fun _ h => nomatch h) hm6 hm7 (grown_drew hgrow1 hv0).size ?_; intro v2 w2 hown2 hgrow2))
                have hb1 := grown_drew hgrow1 hv0
                have hb2 : Below wr.heap.size wr w2 := Below.grown hb1 hgrow2 hb1.size (fun q hq => (hown1.lt q hq).1)
                have hown3 : w2.ownsRow wr.heap.size 45 6 v2 k (flat (B.take k ++ B.drop (k + 1))) := by
                  rw [HD0.out, List.append_nil]
                  rw [Nat.zero_add, Nat.add_zero, List.nil_append, List.append_nil] at hown2
                  exact hown2
                obtain ⟨a2, cap2, rfl, hln2, hcap2, hbuns⟩ := owns6 hown3
                clear hln2
                have HB2 := Lib.hid hbuns
                have hbw : Below w.heap.size w w2 := hold.trans (hb2.mono hold.size)
                have HL2 := Lib.hid ((hb2.block w.heap.size hls).trans ((hbel.block w.heap.size hl0.1).trans HLB.out))
                clear hls l0 l1 l2 l3 l4 l5 l6
                obtain ⟨hls, l0, l1, l2, l3, l4, l5, l6⟩ := lay_full HL2.out
                have hsz2 := hbw.size
                clear hown1 hgrow1 hown2 hgrow2 hown3 hbuns hb1 hb2 HN1 HOE hm1 hm2 hm3 hm6 hm7 hv0
                go_wp2_with fail
                refine (K2.out _ _ _ hbw HB2.out hcap2).mono ?_
                rintro e w' ⟨rfl, z5, rfl⟩
                go_wp2_with (first | (go_at_call 12; (first | (with_reducible refine (Calls.ext_of (alive_any _)).mono ?_) | refine (alive_any _).mono ?_); rintro e w' ⟨rfl, z9, rfl⟩))
                go_ret
                exact ⟨rfl, (below_ext (by repeat (first | exact hbw | exact Below.refl _ _ | (with_reducible refine Below.setCell ?_ (by first | omega | (simp; done) | (simp; omega)) _) | (with_reducible refine Below.alloc ?_ (by first | omega | (simp; done) | (simp; omega)) _) | (with_reducible refine Below.onDrewN ?_ _) | (with_reducible refine Below.drew ?_) | (with_reducible refine Below.ofExt ?_ (by first | omega | (simp; done) | (simp; omega))))))⟩
              · have hk8 : ¬ c - (k + 1) = 0 := by omega
                have hk3 : (k : Int) + 1 < (c : Int) := by omega
                have HOE : Hid ((wr.alloc (.cells #[] 45)).drew.ownsRow wr.heap.size 45 6 (.slice (some ⟨wr.heap.size, 0, none⟩) 0 0) 0 []) := Lib.hid (owns_empty rfl (Nat.le_refl _))
                go_region_held3 (fun w' => True) (trivial)
                  (first
                    | (refine step_append_own (by rfl) (.tmp 112) (.tmp 115) 33 (by rfl) wr.heap.size 45 i0 (.agg #[.int .i64 0, .int .i64 0, .int .i64 0, .int .i64 0, .int .i64 0, .int .i64 0]) 6 48 Try.underlying33 hi hz0 hz1 hz2 (by rfl) (by decide) (.slice (some ⟨wr.heap.size, 0, none⟩) 0 0) 0 [] (by rfl) HOE.out ⟨b, o, none⟩ k c (flat (B.take k)) (by rfl) HLT.out HN1.out (flat_one _) hm1 hm2 hm3 ?_; intro v1 w1 hown1 hgrow1)
                    | (refine step_append_own (by rfl) (.tmp 116) (.tmp 120) 33 (by rfl) wr.heap.size 45 i0 (.agg #[.int .i64 0, .int .i64 0, .int .i64 0, .int .i64 0, .int .i64 0, .int .i64 0]) 6 48 Try.underlying33 hi hz0 hz1 hz2 (by rfl) (by decide) v1 (0 + k) ([] ++ flat (B.take k)) (by rfl) hown1 ⟨b, o + (k + 1) * 6, none⟩ (j - (k + 1)) (c - (k + 1)) (flat (B.drop (k + 1))) (by rfl) HLD.out (news_drop (HBW.out.below (grown_drew hgrow1 hv0)) (k + 1)) (flat_one _) hm4 hm5 (grown_drew hgrow1 hv0).size ?_; intro v2 w2 hown2 hgrow2))
                have hb1 := grown_drew hgrow1 hv0
                have hb2 : Below wr.heap.size wr w2 := Below.grown hb1 hgrow2 hb1.size (fun q hq => (hown1.lt q hq).1)
                have hown3 : w2.ownsRow wr.heap.size 45 6 v2 (k + (j - (k + 1))) (flat (B.take k ++ B.drop (k + 1))) := by
                  rw [Nat.zero_add, List.nil_append, ← flat_append] at hown2
                  exact hown2
                obtain ⟨a2, cap2, rfl, hln2, hcap2, hbuns⟩ := owns6 hown3
                clear hln2
                have HB2 := Lib.hid hbuns
                have hbw : Below w.heap.size w w2 := hold.trans (hb2.mono hold.size)
                have HL2 := Lib.hid ((hb2.block w.heap.size hls).trans ((hbel.block w.heap.size hl0.1).trans HLB.out))
                clear hls l0 l1 l2 l3 l4 l5 l6
                obtain ⟨hls, l0, l1, l2, l3, l4, l5, l6⟩ := lay_full HL2.out
                have hsz2 := hbw.size
                clear hown1 hgrow1 hown2 hgrow2 hown3 hbuns hb1 hb2 HN1 HOE hm1 hm2 hm3 hm4 hm5 hv0
                go_wp2_with fail
                refine (K2.out _ _ _ hbw HB2.out hcap2).mono ?_
                rintro e w' ⟨rfl, z5, rfl⟩
                go_wp2_with (first | (go_at_call 12; (first | (with_reducible refine (Calls.ext_of (alive_any _)).mono ?_) | refine (alive_any _).mono ?_); rintro e w' ⟨rfl, z9, rfl⟩))
                go_ret
                exact ⟨rfl, (below_ext (by repeat (first | exact hbw | exact Below.refl _ _ | (with_reducible refine Below.setCell ?_ (by first | omega | (simp; done) | (simp; omega)) _) | (with_reducible refine Below.alloc ?_ (by first | omega | (simp; done) | (simp; omega)) _) | (with_reducible refine Below.onDrewN ?_ _) | (with_reducible refine Below.drew ?_) | (with_reducible refine Below.ofExt ?_ (by first | omega | (simp; done) | (simp; omega))))))⟩
      · have g4b : (er != 0) = true := by rw [bne_iff_ne]; exact g4
        clear hZ hP hB hx hxb hC g4
        obtain ⟨n1, n2, n3, n4, sa, sc, pa, pn, pc, ya, yc⟩ := y
        dsimp only at KL K1 ⊢
        generalize Z.length = nz at *
        generalize P.length = np at *
        generalize B.length = n at *
        go_enter Try.func8, Try.ntmps8
        go_wp2_with (first | (go_at_call 11; refine (KL.out _).mono ?_; rintro e w' ⟨rfl, z, rfl⟩) | (go_at_call 18; refine (K1.out _ (by repeat (first | exact Below.refl _ _ | exact Below.refl _ _ | (with_reducible refine Below.setCell ?_ (by first | omega | (simp; done) | (simp; omega)) _) | (with_reducible refine Below.alloc ?_ (by first | omega | (simp; done) | (simp; omega)) _) | (with_reducible refine Below.onDrewN ?_ _) | (with_reducible refine Below.drew ?_) | (with_reducible refine Below.ofExt ?_ (by first | omega | (simp; done) | (simp; omega)))))).mono ?_; rintro e w' ⟨rfl, z2, rfl⟩) | (go_at_call 12; (first | (with_reducible refine (Calls.ext_of (alive_any _)).mono ?_) | refine (alive_any _).mono ?_); rintro e w' ⟨rfl, z9, rfl⟩))
        go_ret
        exact ⟨rfl, (below_ext (by repeat (first | exact Below.refl _ _ | exact Below.refl _ _ | (with_reducible refine Below.setCell ?_ (by first | omega | (simp; done) | (simp; omega)) _) | (with_reducible refine Below.alloc ?_ (by first | omega | (simp; done) | (simp; omega)) _) | (with_reducible refine Below.onDrewN ?_ _) | (with_reducible refine Below.drew ?_) | (with_reducible refine Below.ofExt ?_ (by first | omega | (simp; done) | (simp; omega))))))⟩
  · have KL := Lib.hid (fun W => Light_no y Z.length P.length W g1)
    clear hZ hP hB g1 hx hxb
    obtain ⟨n1, n2, n3, n4, sa, sc, pa, pn, pc, ya, yc⟩ := y
    dsimp only at KL ⊢
    generalize Z.length = nz at *
    generalize P.length = np at *
    generalize B.length = n at *
    go_enter Try.func8, Try.ntmps8
    go_wp2_with (first | (go_at_call 11; refine (KL.out _).mono ?_; rintro e w' ⟨rfl, z, rfl⟩) | (go_at_call 12; (first | (with_reducible refine (Calls.ext_of (alive_any _)).mono ?_) | refine (alive_any _).mono ?_); rintro e w' ⟨rfl, z9, rfl⟩))
    go_ret
    exact ⟨rfl, (below_ext (by repeat (first | exact Below.refl _ _ | exact Below.refl _ _ | (with_reducible refine Below.setCell ?_ (by first | omega | (simp; done) | (simp; omega)) _) | (with_reducible refine Below.alloc ?_ (by first | omega | (simp; done) | (simp; omega)) _) | (with_reducible refine Below.onDrewN ?_ _) | (with_reducible refine Below.drew ?_) | (with_reducible refine Below.ofExt ?_ (by first | omega | (simp; done) | (simp; omega))))))⟩

set_option maxRecDepth 100000 in
theorem bundleTickets_lifted (os : Os) (started : os.Started) (H : Type) (enc : TypeId × Value → H) :
    ReturnsInHanded {} Try.checked os 8 .any (Rows.bundleTicketsSpec.pre6 enc Try.prog Try.f8 Rows.bundleTicketsRow.domain false) (Rows.bundleTicketsSpec.post enc Try.prog Try.f8 false true false false) := by
  refine returnsInHanded_of_change (C := Try.checked) own started (by kernel_rfl) Try.func8
    (ChangeSpec.witness6 (enc := enc) (C := Try.checked) false ⟨#[], #[.agg #[.int .i64 0, .int .i64 0, .int .i64 0, .int .i64 0, .slice none 0 0, .slice none 0 0, .slice none 0 0], .slice none 0 0, .int .u8 0], []⟩ 8 (by kernel_rfl) (by kernel_rfl) (by kernel_rfl) (by kernel_rfl)) ?_
  intro W base args ds gs before hval0 hW hcnd _
  have hval : ∀ (j : Nat) t v, Try.f8.params[j]? = some t → args[j]? = some v → Value.okWide Try.prog W .any base t v := hval0
  have hW' := hW
  obtain ⟨p, q, hA0, hV, rfl, hfz, hnd⟩ := hW
  have hA : DataW.TrodAll enc Try.prog W 0 (fun _ => true) true Try.f8.params.toList args.toList ds p := hA0
  rw [Try.params8] at hA hval
  obtain ⟨v0, v1, v2, d0, d1, d2, p0, p1, p2, rfl, rfl, rfl, h0, h1, h2⟩ := trodAll_three hA
  obtain ⟨y0, Z0, P0, rfl, mz0, rz0, cy0, mp0, rp0⟩ := open_lay (hval 0 30 v0 rfl rfl) h0
  obtain ⟨a1, c1, B1, rfl, cb1, mb1, rb1⟩ := open_buns (hval 1 33 v1 rfl rfl) h1
  obtain ⟨x2, rfl, rfl, rfl, w2⟩ := open_int Try.underlying5 (hval 2 5 v2 rfl rfl) h2
  refine (tickets_walk y0 Z0 P0 a1 c1 B1 W rz0 rp0 cy0 mz0 mp0 rb1 cb1 mb1 x2 w2).mono fun e W' ⟨he, z, hz⟩ => ?_
  subst he hz
  exact ⟨_, rfl, law_post rfl (by kernel_rfl) (by kernel_rfl) Try.underlying4 hW' (fun _ => ⟨rfl, rfl, rfl⟩) (ext_below _ _)⟩

theorem bundleTickets_holds : Rows.BundleTicketsSaid :=
  OpenClaim.holds_of_wide 8 Try.f8 rfl rfl rfl rfl rfl rfl rfl ⟨rfl, rfl, rfl, rfl, rfl⟩ rfl rfl rfl rfl rfl (by kernel_rfl) Try.func8 (by kernel_rfl)
    (of_decide_eq_true (by kernel_rfl)) (by unfold Func.isWrapper; first | (rw [if_pos (by decide +kernel)]; kernel_rfl) | (rw [if_neg (by decide +kernel)]; exact ⟨rfl, rfl⟩))
    (fun os started H enc _ => bundleTickets_lifted os started H enc)
#print axioms bundleTickets_holds
end Go.Proofs.Ytpfffpajnjeoeaa
