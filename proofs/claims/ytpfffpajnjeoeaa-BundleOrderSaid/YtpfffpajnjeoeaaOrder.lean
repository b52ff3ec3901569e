/-
  BundleOrder returns true for all lays, bundles and places; no condition.
-/
import Derived.Test.YtpfffpajnjeoeaaMakes
import Derived.Test.YtpfffpajnjeoeaaPerm
namespace Go.Proofs.Ytpfffpajnjeoeaa
open Go.RowKit Go.ChangeShapes Go.WideShapes Go.ChangeAt

section
variable {P : Program} {w : World}
/-- An append at a step of a region that draws, whatever is appended. -/
theorem step_append_own {ops : Array Oper} {o : Oper} {a : Act} {K : Act → World → Prop} {Q : Exit → Act → World → Prop} {E : Prop} (hgd : o.guard = none) (s x : Operand) (t : TypeId)
    (ho : o.op = .call { callee := .builtin .append, args := #[s, x], argTypes := #[t, t] })
    (base : Nat) (e : TypeId) (i : TypeInfo) (z : Value) (size bytes : Nat) (ht : P.underlying t = some (.slice e)) (hi : P.info? e = some i) (hz : i.zero = some z)
    (hsize : i.size = size) (hby : i.bytes = bytes) (hzs : z.cells.size = size) (hsz : 0 < size)
    (v : Value) (n : Nat) (xs : List Value) (hs : a.eval s = v) (hown : w.ownsRow base e size v n xs)
    (ad : Addr) (m c : Nat) (news : List Value) (hx : a.eval x = .slice (some ad) m c) (hl : news.length = m * size) (hnews : ∀ j u, news[j]? = some u → w.cell? (ad.add j) = some u) (h1 : ∀ u ∈ news, u.oneCell' = true)
    (h63 : n + m ≤ maxLen) (hbytes : (n + m) * bytes ≤ 140737488355328) (hbase : base ≤ w.heap.size)
    (h : ∀ v' w', w'.ownsRow base e size v' (n + m) (xs ++ news) → w.grownBy w' v.ownBlock → K (a.put o.dst v') w') :
    if Region.wanted o (yielded ops a.tmps) = true then Oper.wp P o a w K Q else E := by
  have hw : Region.wanted o (yielded ops a.tmps) = true := by simp [Region.wanted, hgd]
  rw [if_pos hw]
  exact wp_append_own w s x t ho base e i z size bytes ht hi hz hsize hby hzs hsz v n xs hs hown ad m c news hx hl hnews h1 h63 hbytes hbase fun v' w' h2 h3 _ => h v' w' h2 h3
end
theorem flat_one (B : List Bun) : ∀ u ∈ flat B, u.oneCell' = true := by
  intro u hu
  simp only [flat, List.mem_flatMap] at hu
  obtain ⟨b, _, hu⟩ := hu
  simp only [bunc, List.mem_cons, List.not_mem_nil, or_false] at hu
  rcases hu with rfl | rfl | rfl | rfl | rfl | rfl <;> rfl
theorem bn_drop (B : List Bun) (k i : Nat) : bn (B.drop k) i = bn B (k + i) := by
  unfold bn
  simp [List.getD]
theorem flat_append (A B : List Bun) : flat (A ++ B) = flat A ++ flat B := by simp [flat]
/-- A part of a list of bundles, cell by cell. -/
theorem buns_news {w : World} {b o : Nat} {B : List Bun} (hc : ∀ i, i < B.length →
    w.cell? ⟨b, o + i * 6, none⟩ = some (.int .i64 (bn B i).t) ∧ w.cell? ⟨b, o + i * 6 + 1, none⟩ = some (.int .i64 (bn B i).g) ∧ w.cell? ⟨b, o + i * 6 + 2, none⟩ = some (.int .i64 (bn B i).s) ∧
    w.cell? ⟨b, o + i * 6 + 3, none⟩ = some (.int .i64 (bn B i).l) ∧ w.cell? ⟨b, o + i * 6 + 4, none⟩ = some (.int .i64 (bn B i).f) ∧ w.cell? ⟨b, o + i * 6 + 5, none⟩ = some (.int .i64 (bn B i).o)) (j : Nat) (u : Value) (h : (flat B)[j]? = some u) : w.cell? ⟨b, o + j, none⟩ = some u := by
  have hj : j < (flat B).length := (List.getElem?_eq_some_iff.1 h).1
  rw [flat_len] at hj
  have hi : j / 6 < B.length := by omega
  have e : j / 6 * 6 + j % 6 = j := by omega
  have hg := flat_get B (j / 6) (j % 6) hi (by omega)
  rw [e, h] at hg
  obtain ⟨h0, h1, h2, h3, h4, h5⟩ := hc (j / 6) hi
  have hk : j % 6 = 0 ∨ j % 6 = 1 ∨ j % 6 = 2 ∨ j % 6 = 3 ∨ j % 6 = 4 ∨ j % 6 = 5 := by omega
  rcases hk with k | k | k | k | k | k <;> rw [k] at hg e
  · rw [show o + j = o + j / 6 * 6 by omega, h0, hg]; rfl
  · rw [show o + j = o + j / 6 * 6 + 1 by omega, h1, hg]; rfl
  · rw [show o + j = o + j / 6 * 6 + 2 by omega, h2, hg]; rfl
  · rw [show o + j = o + j / 6 * 6 + 3 by omega, h3, hg]; rfl
  · rw [show o + j = o + j / 6 * 6 + 4 by omega, h4, hg]; rfl
  · rw [show o + j = o + j / 6 * 6 + 5 by omega, h5, hg]; rfl
theorem news_drop {w : World} {b o : Nat} {B : List Bun} (h : BunsAt w (some ⟨b, o, none⟩) B) (k : Nat) : ∀ (j : Nat) (u : Value), (flat (B.drop k))[j]? = some u → w.cell? ((⟨b, o + k * 6, none⟩ : Addr).add j) = some u := fun j u hu => by
  obtain ⟨b', o', ha, hc⟩ := h
  have hj : j < (flat (B.drop k)).length := (List.getElem?_eq_some_iff.1 hu).1
  rw [flat_len] at hj
  have hlen : (B.drop k).length = B.length - k := by simp
  obtain ⟨e, _⟩ := ha (by omega)
  injection e with e
  injection e with e1 e2
  subst e1 e2
  have := buns_news (w := w) (b := b) (o := o + k * 6) (B := B.drop k) (fun i hi => by
    have := hc (k + i) (by omega)
    rw [bn_drop]
    rw [show o + (k + i) * 6 = o + k * 6 + i * 6 by omega] at this
    exact this) j u hu
  have e3 : (⟨b, o + k * 6, none⟩ : Addr).add j = ⟨b, o + k * 6 + j, none⟩ := by unfold Addr.add; split <;> simp_all
  rw [e3]
  exact this
theorem news_take {w : World} {b o : Nat} {B : List Bun} (h : BunsAt w (some ⟨b, o, none⟩) B) (k : Nat) : ∀ (j : Nat) (u : Value), (flat (B.take k))[j]? = some u → w.cell? ((⟨b, o, none⟩ : Addr).add j) = some u := fun j u hu => by
  have := news_drop (h.take k) 0 j u (by simpa using hu)
  simpa using this
theorem owns_empty {w : World} {base q : Nat} (hq : q = w.heap.size) (hb : base ≤ q) : (w.alloc (.cells #[] 45)).ownsRow base 45 6 (.slice (some ⟨q, 0, none⟩) 0 0) 0 [] :=
  ⟨rfl, .inr ⟨q, 0, #[], rfl, hb, heap_alloc_at w _ _ hq, by omega, by simp [maxLen], rfl, rfl⟩⟩
theorem lay_box2 {w z1 z2 : World} {X : Obj} : (ext (ext (w.alloc X) z1) z2).heap[w.heap.size]? = some X := by
  rw [ext_block _ _ _ (by first | omega | (simp; done) | (simp; omega)), ext_block _ _ _ (by first | omega | (simp; done) | (simp; omega))]
  exact heap_alloc_at _ _ _ rfl
theorem grown_drew {W w1 : World} {X : Obj} {v : Value} (hg : (W.alloc X).drew.grownBy w1 v.ownBlock) (hv : ∀ q, v.ownBlock = some q → W.heap.size ≤ q) : Below W.heap.size W w1 :=
  Below.grown (((Below.refl W.heap.size W).alloc (Nat.le_refl _) X).drew) hg (by simp [World.drew]) hv
/-- An 8-bit number by a length. -/
theorem rem_small {x : Int} {n : Nat} (h0 : 0 ≤ x) (hn : 0 < n) : ∃ k : Nat, x.tmod (n : Int) = k ∧ k < n := by
  obtain ⟨m, rfl⟩ := Int.eq_ofNat_of_zero_le h0
  refine ⟨m % n, ?_, Nat.mod_lt _ hn⟩
  rfl
set_option maxRecDepth 100000 in
set_option maxHeartbeats 8000000 in
theorem order_walk (y : Lay) (Z P : List Int) (a : Option Addr) (c : Nat) (B : List Bun) (w : World) (hZ : RowAt w y.sa (ints Z)) (hP : PliesAt w y.ya P) (hyc : P.length ≤ y.yc) (hz : Z.length ≤ maxLen) (hp : P.length ≤ maxLen) (hB : BunsAt w a B) (hbc : B.length ≤ c) (hm : B.length ≤ maxLen) (x : Int) (hx : (Lit.int .u8 x).wf = true) :
    Calls Try.prog 10 #[.agg #[.int .i64 y.n1, .int .i64 y.n2, .int .i64 y.n3, .int .i64 y.n4, .slice y.sa Z.length y.sc, .slice y.pa y.pn y.pc, .slice y.ya P.length y.yc], .slice a B.length c, .int .u8 x] w fun e w' => e = .returned (.bool true) ∧ ∃ z, w' = ext w z := by
  unfold maxLen at hm hz hp
  have hxb : 0 ≤ x ∧ x ≤ 255 := by
    simp [Lit.wf, IntKind.min, IntKind.max, IntKind.signed, IntKind.bits] at hx
    omega
  by_cases g1 : Z.length ≤ 12 ∧ P.length ≤ 80
  · have KL := Lib.hid (fun W => Light_yes y Z.length P.length W g1.1 g1.2)
    by_cases g2 : 100 < B.length
    · clear hZ hP hB hx hxb
      obtain ⟨n1, n2, n3, n4, sa, sc, pa, pn, pc, ya, yc⟩ := y
      dsimp only at KL ⊢
      generalize Z.length = nz at *
      generalize P.length = np at *
      generalize B.length = n at *
      go_enter Try.func10, Try.ntmps10
      go_wp2_with (first | (go_at_call 11; refine (KL.out _).mono ?_; rintro e w' ⟨rfl, z, rfl⟩) | (go_at_call 12; (first | (with_reducible refine (Calls.ext_of (alive_any _)).mono ?_) | refine (alive_any _).mono ?_); rintro e w' ⟨rfl, z9, rfl⟩))
      go_ret
      exact ⟨rfl, (below_ext (by repeat (first | exact Below.refl _ _ | exact Below.refl _ _ | (with_reducible refine Below.setCell ?_ (by first | omega | (simp; done) | (simp; omega)) _) | (with_reducible refine Below.alloc ?_ (by first | omega | (simp; done) | (simp; omega)) _) | (with_reducible refine Below.onDrewN ?_ _) | (with_reducible refine Below.drew ?_) | (with_reducible refine Below.ofExt ?_ (by first | omega | (simp; done) | (simp; omega))))))⟩
    · by_cases g3 : B.length = 0
      · have g3b : ((B.length : Int) == 0) = true := by rw [beq_iff_eq]; omega
        have g3c : (B.length == 0) = true := by rw [beq_iff_eq]; exact g3
        clear hZ hP hB hx hxb
        obtain ⟨n1, n2, n3, n4, sa, sc, pa, pn, pc, ya, yc⟩ := y
        dsimp only at KL ⊢
        generalize Z.length = nz at *
        generalize P.length = np at *
        generalize B.length = n at *
        subst g3
        go_enter Try.func10, Try.ntmps10
        go_wp2_with (first | (go_at_call 11; refine (KL.out _).mono ?_; rintro e w' ⟨rfl, z, rfl⟩) | (go_at_call 12; (first | (with_reducible refine (Calls.ext_of (alive_any _)).mono ?_) | refine (alive_any _).mono ?_); rintro e w' ⟨rfl, z9, rfl⟩))
        go_ret
        exact ⟨rfl, (below_ext (by repeat (first | exact Below.refl _ _ | exact Below.refl _ _ | (with_reducible refine Below.setCell ?_ (by first | omega | (simp; done) | (simp; omega)) _) | (with_reducible refine Below.alloc ?_ (by first | omega | (simp; done) | (simp; omega)) _) | (with_reducible refine Below.onDrewN ?_ _) | (with_reducible refine Below.drew ?_) | (with_reducible refine Below.ofExt ?_ (by first | omega | (simp; done) | (simp; omega))))))⟩
      · obtain ⟨er, hC⟩ := chk_exists Z P B
        have K1 := Lib.hid (fun W (hb : Below w.heap.size w W) => Check_any y Z P a c B W (hZ.below hb) (hP.below hb) (hB.below hb) (by omega) (by omega) (by omega) hyc hbc er hC)
        have g3b : ((B.length : Int) == 0) = false := by rw [beq_eq_false_iff_ne]; omega
        have g3c : (B.length == 0) = false := by rw [beq_eq_false_iff_ne]; exact g3
        by_cases g4 : er = 0
        · subst g4
          obtain ⟨k, hk, hkn⟩ := rem_small (x := x) (n := B.length) hxb.1 (by omega)
          have hch := chk_perm (turned_perm B k) hC
          have hln : (B.drop k ++ B.take k).length = B.length := by simp; omega
          have K2 := Lib.hid (fun a' c' W (hb : Below w.heap.size w W) h hc => Check_any y Z P a' c' (B.drop k ++ B.take k) W (hZ.below hb) (hP.below hb) h (by omega) (by omega) (by omega) hyc hc 0 hch)
          rw [hln] at K2
          have hld : (flat (B.drop k)).length = (B.length - k) * 6 := by rw [flat_len]; simp
          have hlt : (flat (B.take k)).length = k * 6 := by rw [flat_len]; simp; omega
          have HLD := Lib.hid hld
          have HLT := Lib.hid hlt
          have HB := Lib.hid hB
          obtain ⟨b, o, ha, _⟩ := hB
          obtain ⟨rfl, hbl⟩ := ha (by omega)
          clear hZ hP hx hC hch ha hln hld hlt
          obtain ⟨n1, n2, n3, n4, sa, sc, pa, pn, pc, ya, yc⟩ := y
          dsimp only at KL K1 K2 ⊢
          generalize Z.length = nz at *
          generalize P.length = np at *
          generalize B.length = n at *
          obtain ⟨i0, hi, hz0, hz1, hz2⟩ := info_parts Try.info45
          have hn0 : ¬ (n : Int) = 0 := by omega
          have hk1 : (0 : Int) ≤ (k : Int) ∧ (k : Int) < (n : Int) := by omega
          have hk2 : (k : Int) ≤ (c : Int) := by omega
          go_enter Try.func10, Try.ntmps10
          go_wp2_with (first | (go_at_call 11; refine (KL.out _).mono ?_; rintro e w' ⟨rfl, z, rfl⟩) | (go_at_call 18; refine (K1.out _ (by repeat (first | exact Below.refl _ _ | exact Below.refl _ _ | (with_reducible refine Below.setCell ?_ (by first | omega | (simp; done) | (simp; omega)) _) | (with_reducible refine Below.alloc ?_ (by first | omega | (simp; done) | (simp; omega)) _) | (with_reducible refine Below.onDrewN ?_ _) | (with_reducible refine Below.drew ?_) | (with_reducible refine Below.ofExt ?_ (by first | omega | (simp; done) | (simp; omega)))))).mono ?_; rintro e w' ⟨rfl, z2, rfl⟩))
          have HLB := Lib.hid (lay_box2 (w := w) (z1 := z) (z2 := z2) (X := .cells #[.int .i64 n1, .int .i64 n2, .int .i64 n3, .int .i64 n4, .slice sa nz sc, .slice pa pn pc, .slice ya np yc] 30))
          have hW1 : Below w.heap.size w (ext (ext (w.alloc (.cells #[.int .i64 n1, .int .i64 n2, .int .i64 n3, .int .i64 n4, .slice sa nz sc, .slice pa pn pc, .slice ya np yc] 30)) z) z2) := (by repeat (first | exact Below.refl _ _ | exact Below.refl _ _ | (with_reducible refine Below.setCell ?_ (by first | omega | (simp; done) | (simp; omega)) _) | (with_reducible refine Below.alloc ?_ (by first | omega | (simp; done) | (simp; omega)) _) | (with_reducible refine Below.onDrewN ?_ _) | (with_reducible refine Below.drew ?_) | (with_reducible refine Below.ofExt ?_ (by first | omega | (simp; done) | (simp; omega)))))
          generalize ext (ext (w.alloc (.cells #[.int .i64 n1, .int .i64 n2, .int .i64 n3, .int .i64 n4, .slice sa nz sc, .slice pa pn pc, .slice ya np yc] 30)) z) z2 = W at *
          have HBW := Lib.hid (HB.out.below hW1)
          have hk3 : (k : Int) < (c : Int) := by omega
          have hk4 : (n : Int) ≤ (c : Int) := by omega
          have hk5 : (k : Int) ≤ (n : Int) := by omega
          have hk6 : (0 : Int) ≤ (k : Int) := by omega
          have hk7 : (0 : Int) ≤ (n : Int) := by omega
          have hk8 : ¬ c = k := by omega
          have hk9 : ¬ c - k = 0 := by omega
          have hv0 : ∀ q, (Value.slice (some ⟨W.heap.size, 0, none⟩) 0 0).ownBlock = some q → W.heap.size ≤ q := fun q hq => Nat.le_of_eq (by simpa [Value.ownBlock] using hq)
          have HN1 : Hid (∀ j u, (flat (B.drop k))[j]? = some u → (W.alloc (.cells #[] 45)).drew.cell? ((⟨b, o + k * 6, none⟩ : Addr).add j) = some u) := Lib.hid (news_drop (w := (W.alloc (.cells #[] 45)).drew) (HBW.out.below (((Below.refl W.heap.size W).alloc (Nat.le_refl _) _).drew)) k)
          have HOE : Hid ((W.alloc (.cells #[] 45)).drew.ownsRow W.heap.size 45 6 (.slice (some ⟨W.heap.size, 0, none⟩) 0 0) 0 []) := Lib.hid (owns_empty rfl (Nat.le_refl _))
          have hm1 : 0 + (n - k) ≤ maxLen := by unfold maxLen; omega
          have hm2 : (0 + (n - k)) * 48 ≤ 140737488355328 := by omega
          have hm3 : W.heap.size ≤ (W.alloc (.cells #[] 45)).drew.heap.size := by simp [World.drew]
          have hm4 : 0 + (n - k) + k ≤ maxLen := by unfold maxLen; omega
          have hm5 : (0 + (n - k) + k) * 48 ≤ 140737488355328 := by omega
          go_region_held3 (fun w' => True) (trivial)
            (first
              | (refine step_append_own (by rfl) (.tmp 34) (.tmp 37) 33 (by rfl) W.heap.size 45 i0 (.agg #[.int .i64 0, .int .i64 0, .int .i64 0, .int .i64 0, .int .i64 0, .int .i64 0]) 6 48 Try.underlying33 hi hz0 hz1 hz2 (by rfl) (by decide) (.slice (some ⟨W.heap.size, 0, none⟩) 0 0) 0 [] (by rfl) HOE.out ⟨b, o + k * 6, none⟩ (n - k) (c - k) (flat (B.drop k)) (by rfl) HLD.out HN1.out (flat_one _) hm1 hm2 hm3 ?_; intro v1 w1 hown1 hgrow1)
              | (refine step_append_own (by rfl) (.tmp 38) (.tmp 41) 33 (by rfl) W.heap.size 45 i0 (.agg #[.int .i64 0, .int .i64 0, .int .i64 0, .int .i64 0, .int .i64 0, .int .i64 0]) 6 48 Try.underlying33 hi hz0 hz1 hz2 (by rfl) (by decide) v1 (0 + (n - k)) ([] ++ flat (B.drop k)) (by rfl) hown1 ⟨b, o, none⟩ k c (flat (B.take k)) (by rfl) HLT.out (news_take (HBW.out.below (grown_drew hgrow1 hv0)) k) (flat_one _) hm4 hm5 (grown_drew hgrow1 hv0).size ?_; intro v2 w2 hown2 hgrow2))
          have hb1 := grown_drew hgrow1 hv0
          have hb2 : Below W.heap.size W w2 := Below.grown hb1 hgrow2 hb1.size (fun q hq => (hown1.lt q hq).1)
          have hown3 : w2.ownsRow W.heap.size 45 6 v2 n (flat (B.drop k ++ B.take k)) := by
            rw [show 0 + (n - k) + k = n by omega, List.nil_append, ← flat_append] at hown2
            exact hown2
          obtain ⟨a2, cap2, rfl, hln2, hcap2, hbuns⟩ := owns6 hown3
          clear hln2
          have HB2 := Lib.hid hbuns
          have hbw : Below w.heap.size w w2 := hW1.trans (hb2.mono hW1.size)
          obtain ⟨hls, l0, l1, l2, l3, l4, l5, l6⟩ := lay_full ((hb2.block w.heap.size (lay_some HLB.out).1).trans HLB.out)
          have hsz := hbw.size
          clear hown1 hgrow1 hown2 hgrow2 hown3 hbuns hb1 hb2 HN1 HOE hm1 hm2 hm3 hm4 hm5 hv0
          go_wp2_with fail
          refine (K2.out _ _ _ hbw HB2.out hcap2).mono ?_
          rintro e w' ⟨rfl, z5, rfl⟩
          go_wp2_with (first | (go_at_call 12; (first | (with_reducible refine (Calls.ext_of (alive_any _)).mono ?_) | refine (alive_any _).mono ?_); rintro e w' ⟨rfl, z9, rfl⟩))
          go_ret
          exact ⟨rfl, (below_ext (by repeat (first | exact hbw | exact Below.refl _ _ | (with_reducible refine Below.setCell ?_ (by first | omega | (simp; done) | (simp; omega)) _) | (with_reducible refine Below.alloc ?_ (by first | omega | (simp; done) | (simp; omega)) _) | (with_reducible refine Below.onDrewN ?_ _) | (with_reducible refine Below.drew ?_) | (with_reducible refine Below.ofExt ?_ (by first | omega | (simp; done) | (simp; omega))))))⟩
        · have g4b : (er != 0) = true := by rw [bne_iff_ne]; exact g4
          clear hZ hP hB hx hxb hC g4
          obtain ⟨n1, n2, n3, n4, sa, sc, pa, pn, pc, ya, yc⟩ := y
          dsimp only at KL K1 ⊢
          generalize Z.length = nz at *
          generalize P.length = np at *
          generalize B.length = n at *
          go_enter Try.func10, Try.ntmps10
          go_wp2_with (first | (go_at_call 11; refine (KL.out _).mono ?_; rintro e w' ⟨rfl, z, rfl⟩) | (go_at_call 18; refine (K1.out _ (by repeat (first | exact Below.refl _ _ | exact Below.refl _ _ | (with_reducible refine Below.setCell ?_ (by first | omega | (simp; done) | (simp; omega)) _) | (with_reducible refine Below.alloc ?_ (by first | omega | (simp; done) | (simp; omega)) _) | (with_reducible refine Below.onDrewN ?_ _) | (with_reducible refine Below.drew ?_) | (with_reducible refine Below.ofExt ?_ (by first | omega | (simp; done) | (simp; omega)))))).mono ?_; rintro e w' ⟨rfl, z2, rfl⟩) | (go_at_call 12; (first | (with_reducible refine (Calls.ext_of (alive_any _)).mono ?_) | refine (alive_any _).mono ?_); rintro e w' ⟨rfl, z9, rfl⟩))
          go_ret
          exact ⟨rfl, (below_ext (by repeat (first | exact Below.refl _ _ | exact Below.refl _ _ | (with_reducible refine Below.setCell ?_ (by first | omega | (simp; done) | (simp; omega)) _) | (with_reducible refine Below.alloc ?_ (by first | omega | (simp; done) | (simp; omega)) _) | (with_reducible refine Below.onDrewN ?_ _) | (with_reducible refine Below.drew ?_) | (with_reducible refine Below.ofExt ?_ (by first | omega | (simp; done) | (simp; omega))))))⟩
  · have KL := Lib.hid (fun W => Light_no y Z.length P.length W g1)
    clear hZ hP hB g1 hx hxb
    obtain ⟨n1, n2, n3, n4, sa, sc, pa, pn, pc, ya, yc⟩ := y
    dsimp only at KL ⊢
    generalize Z.length = nz at *
    generalize P.length = np at *
    generalize B.length = n at *
    go_enter Try.func10, Try.ntmps10
    go_wp2_with (first | (go_at_call 11; refine (KL.out _).mono ?_; rintro e w' ⟨rfl, z, rfl⟩) | (go_at_call 12; (first | (with_reducible refine (Calls.ext_of (alive_any _)).mono ?_) | refine (alive_any _).mono ?_); rintro e w' ⟨rfl, z9, rfl⟩))
    go_ret
    exact ⟨rfl, (below_ext (by repeat (first | exact Below.refl _ _ | exact Below.refl _ _ | (with_reducible refine Below.setCell ?_ (by first | omega | (simp; done) | (simp; omega)) _) | (with_reducible refine Below.alloc ?_ (by first | omega | (simp; done) | (simp; omega)) _) | (with_reducible refine Below.onDrewN ?_ _) | (with_reducible refine Below.drew ?_) | (with_reducible refine Below.ofExt ?_ (by first | omega | (simp; done) | (simp; omega))))))⟩

set_option maxRecDepth 100000 in
theorem bundleOrder_lifted (os : Os) (started : os.Started) (H : Type) (enc : TypeId × Value → H) :
    ReturnsInHanded {} Try.checked os 10 .any (Rows.bundleOrderSpec.pre6 enc Try.prog Try.f10 Rows.bundleOrderRow.domain false) (Rows.bundleOrderSpec.post enc Try.prog Try.f10 false true false false) := by
  refine returnsInHanded_of_change (C := Try.checked) own started (by kernel_rfl) Try.func10
    (ChangeSpec.witness6 (enc := enc) (C := Try.checked) false ⟨#[], #[.agg #[.int .i64 0, .int .i64 0, .int .i64 0, .int .i64 0, .slice none 0 0, .slice none 0 0, .slice none 0 0], .slice none 0 0, .int .u8 0], []⟩ 8 (by kernel_rfl) (by kernel_rfl) (by kernel_rfl) (by kernel_rfl)) ?_
  intro W base args ds gs before hval0 hW hcnd _
  have hval : ∀ (j : Nat) t v, Try.f10.params[j]? = some t → args[j]? = some v → Value.okWide Try.prog W .any base t v := hval0
  have hW' := hW
  obtain ⟨p, q, hA0, hV, rfl, hfz, hnd⟩ := hW
  have hA : DataW.TrodAll enc Try.prog W 0 (fun _ => true) true Try.f10.params.toList args.toList ds p := hA0
  rw [Try.params10] at hA hval
  obtain ⟨v0, v1, v2, d0, d1, d2, p0, p1, p2, rfl, rfl, rfl, h0, h1, h2⟩ := trodAll_three hA
  obtain ⟨y0, Z0, P0, rfl, mz0, rz0, cy0, mp0, rp0⟩ := open_lay (hval 0 30 v0 rfl rfl) h0
  obtain ⟨a1, c1, B1, rfl, cb1, mb1, rb1⟩ := open_buns (hval 1 33 v1 rfl rfl) h1
  obtain ⟨x2, rfl, rfl, rfl, w2⟩ := open_int Try.underlying5 (hval 2 5 v2 rfl rfl) h2
  refine (order_walk y0 Z0 P0 a1 c1 B1 W rz0 rp0 cy0 mz0 mp0 rb1 cb1 mb1 x2 w2).mono fun e W' ⟨he, z, hz⟩ => ?_
  subst he hz
  exact ⟨_, rfl, law_post rfl (by kernel_rfl) (by kernel_rfl) Try.underlying4 hW' (fun _ => ⟨rfl, rfl, rfl⟩) (ext_below _ _)⟩

theorem bundleOrder_holds : Rows.BundleOrderSaid :=
  OpenClaim.holds_of_wide 10 Try.f10 rfl rfl rfl rfl rfl rfl rfl ⟨rfl, rfl, rfl, rfl, rfl⟩ rfl rfl rfl rfl rfl (by kernel_rfl) Try.func10 (by kernel_rfl)
    (of_decide_eq_true (by kernel_rfl)) (by unfold Func.isWrapper; first | (rw [if_pos (by decide +kernel)]; kernel_rfl) | (rw [if_neg (by decide +kernel)]; exact ⟨rfl, rfl⟩))
    (fun os started H enc _ => bundleOrder_lifted os started H enc)
#print axioms bundleOrder_holds
end Go.Proofs.Ytpfffpajnjeoeaa
