/-
  The contract of the reference Lots.
-/
import Derived.Test.YtjfckjmdcfiacaaBlk
namespace Go.Proofs.Ytjfckjmdcfiacaa
open Go.RowKit

theorem Try.info3 : (Try.prog.info? 3).map (fun i => (i.zero, i.size, i.bytes)) = some (some (.int .i64 0), 1, 8) := by kernel_rfl
theorem TonesAt.spread {w : World} {a : Option Addr} {L : List Tone} (h : TonesAt w a L) : ∃ b o, (0 < L.length → a = some ⟨b, o, none⟩ ∧ b < w.heap.size) ∧ ∀ i', i' < L.length →
    w.cell? ⟨b, o + i' * 3, none⟩ = some (.int .i64 (tn L i').l) ∧ w.cell? ⟨b, o + i' * 3 + 1, none⟩ = some (.int .i64 (tn L i').a) ∧ w.cell? ⟨b, o + i' * 3 + 2, none⟩ = some (.int .i64 (tn L i').b) := by
  by_cases c : 0 < L.length
  · obtain ⟨b, o, e, hlt, hc⟩ := h 0 c
    exact ⟨b, o, fun _ => ⟨e, hlt⟩, hc⟩
  · exact ⟨0, 0, fun h => absurd h c, fun i hi => by omega⟩

/-- The first k hold their own numbers. -/
structure Filled (n k : Nat) (F : List Nat) : Prop where
  len : F.length = n
  val : ∀ j, j < k → F.getD j 0 = j
theorem filled_start (n : Nat) : Filled n 0 (List.replicate n 0) := ⟨by simp, fun j hj => by omega⟩
theorem Filled.step {n k : Nat} {F : List Nat} (h : Filled n k F) (hk : k < n) : Filled n (k + 1) (F.set k k) := by
  refine ⟨by simp [h.len], fun j hj => ?_⟩
  by_cases e : k = j
  · subst e; exact getD_set_eq _ _ _ _ (by rw [h.len]; exact hk)
  · rw [getD_set_ne2 _ _ _ _ _ e]; exact h.val j (by omega)
theorem Filled.relax {N : Nat → Nat → Prop} {n : Nat} {F : List Nat} (h : Filled n n F) : Relax N n 0 0 0 F := by
  have e : F = List.range n := by
    apply List.ext_getElem (by simp [h.len])
    intro i h1 h2
    have := h.val i (by rw [← h.len]; exact h1)
    simp [List.getD, h1] at this
    simp [this]
  rw [e]
  exact relax_start n

set_option maxHeartbeats 8000000 in
theorem RLots_ok (a : Option Addr) (c : Nat) (L : List Tone) (tol : Int) (w : World) (h : TonesAt w a L) (hm : L.length ≤ 20) (ht : 0 ≤ tol) (X : List Int) (hX : LotsOk (Nr L tol) L.length X) :
    Calls Try.prog 15 #[.slice a L.length c, .int .i64 tol] w fun e w' => ∃ g, e = .returned (.tuple #[.slice (some ⟨g, 0, none⟩) L.length L.length, .int .i64 0]) ∧ Blk w' g 3 (ints X) ∧ ∃ z, w' = ext w z := by
  obtain ⟨b, o, ha, hcell⟩ := h.spread
  have HA := Lib.hid ha
  have HC := Lib.hid hcell
  have HX := Lib.hid hX
  clear h ha hcell hX
  generalize hn : L.length = n at *
  have HN := Lib.hid hn
  clear hn
  have hmk := fun w => make1 (P := Try.prog) (t := 25) (e := 3) Try.underlying25 Try.info3 n (by omega) (by omega) w
  go_enter Try.func15, Try.ntmps15
  go_wp2
  go_loopw [7] (fun i wr => ∃ (k : Nat) (F : List Nat), k ≤ n ∧ i = .int .i64 k ∧ Filled n k F ∧ Blk wr w.heap.size 3 (nats F) ∧ Below w.heap.size w wr) (fun i _ => n - (intOf i).toNat)
  case atStart => exact ⟨0, _, by omega, rfl, filled_start n, blk_nats _ _ _ rfl, (by repeat (first | exact hbel | exact Below.refl _ _ | (with_reducible refine Below.setCell ?_ (by first | omega | (simp; done) | (simp; omega)) _) | (with_reducible refine Below.alloc ?_ (by first | omega | (simp; done) | (simp; omega)) _) | (with_reducible refine Below.onDrewN ?_ _) | (with_reducible refine Below.drew ?_) | (with_reducible refine Below.ofExt ?_ (by first | omega | (simp; done) | (simp; omega)))))⟩
  case round =>
    obtain ⟨k, F, hk, rfl, hF, hB, hbel⟩ := hrel
    have hfl := hF.len
    have hsz := hB.lt
    by_cases hlt : k < n
    · have c0 := hB.nat (k := k) (by omega)
      have f0 := hB.free k
      clear hfl
      go_wp2
      go_roundw
      case rel => exact ⟨k + 1, _, by omega, by go_num, hF.step hlt, hB.setNat k k, (by repeat (first | exact hbel | exact Below.refl _ _ | (with_reducible refine Below.setCell ?_ (by first | omega | (simp; done) | (simp; omega)) _) | (with_reducible refine Below.alloc ?_ (by first | omega | (simp; done) | (simp; omega)) _) | (with_reducible refine Below.onDrewN ?_ _) | (with_reducible refine Below.drew ?_) | (with_reducible refine Below.ofExt ?_ (by first | omega | (simp; done) | (simp; omega)))))⟩
      case measure => simp [intOf]; omega
    · obtain rfl : k = n := by omega
      have HR := hF.relax (N := Nr L tol)
      clear hfl hF hlt hk
      go_wp2
      go_loopw [33] (fun i wr => ∃ (t : Nat) (F : List Nat), t ≤ k ∧ i = .int .i64 t ∧ Relax (Nr L tol) k t 0 0 F ∧ Blk wr w.heap.size 3 (nats F) ∧ Below w.heap.size w wr) (fun i _ => k - (intOf i).toNat)
      case atStart => exact ⟨0, _, by omega, rfl, HR, hB, hbel⟩
      case round =>
        clear hB HR hbel hsz
        obtain ⟨t, F2, ht, rfl, HR, hB, hbel⟩ := hrel
        have hsz := hB.lt
        by_cases hlt : t < k
        · obtain ⟨rfl, hbl⟩ := HA.out (by omega)
          go_wp2
          go_loopw [8] (fun i wr => ∃ (i0 : Nat) (F : List Nat), i0 ≤ k ∧ i = .int .i64 i0 ∧ Relax (Nr L tol) k t i0 0 F ∧ Blk wr w.heap.size 3 (nats F) ∧ Below w.heap.size w wr) (fun i _ => k - (intOf i).toNat)
          case atStart => exact ⟨0, _, by omega, rfl, HR, hB, hbel⟩
          case round =>
            clear hB HR hbel hsz
            obtain ⟨i, F3, hi, rfl, HR, hB, hbel⟩ := hrel
            have hsz := hB.lt
            by_cases hlti : i < k
            · go_wp2
              go_loopw [9] (fun i1 wr => ∃ (j : Nat) (F : List Nat), j ≤ k ∧ i1 = .int .i64 j ∧ Relax (Nr L tol) k t i j F ∧ Blk wr w.heap.size 3 (nats F) ∧ Below w.heap.size w wr) (fun i _ => k - (intOf i).toNat)
              case atStart => exact ⟨0, _, by omega, rfl, HR, hB, hbel⟩
              case round =>
                clear hB HR hbel hsz
                obtain ⟨j, F4, hj, rfl, HR, hB, hbel⟩ := hrel
                have hsz := hB.lt
                by_cases hltj : j < k
                · obtain ⟨ci0, ci1, ci2⟩ := HC.out i (by omega)
                  obtain ⟨cj0, cj1, cj2⟩ := HC.out j (by omega)
                  rw [← hbel.cell (by exact hbl)] at ci0 ci1 ci2 cj0 cj1 cj2
                  have hfl := HR.len
                  have cf := hB.nat (k := i) (by omega)
                  have cg := hB.nat (k := j) (by omega)
                  have ff := hB.free i
                  by_cases hd : dist (tn L i) (tn L j) ≤ tol
                  · have HR2 := Lib.hid (HR.yes hlti hltj (nr_symm _ _ ⟨by rw [HN.out]; omega, by rw [HN.out]; omega, hd⟩))
                    clear hfl HR
                    generalize tn L i = ti at *
                    generalize tn L j = tj at *
                    generalize F4.getD i 0 = x at *
                    generalize F4.getD j 0 = y at *
                    go_wp2_with fail
                    refine wp_region_ext (by kernel_rfl) (by kernel_rfl) ?_
                    repeat (go_big_quiet_step ((first | (go_at_call 13; exact Calls.ext_of (RDistance_any _ _ _)))))
                    refine wpQuiet_nil ?_
                    rintro _ ⟨z, rfl⟩
                    go_wp2_with fail
                    refine wp_region_drew_tail 12 (by kernel_rfl) (by kernel_rfl) ?_
                    simp only [List.take_succ_cons, List.take_zero, List.drop_succ_cons, List.drop_zero]
                    repeat (go_big_quiet_step ((fail)))
                    refine wpQuiet_nil ?_
                    rintro _ ⟨d, rfl⟩
                    go_wp2
                    go_roundw
                    case rel =>
                      refine ⟨j + 1, _, by omega, by go_num, HR2.out, ?_, ?_⟩
                      · rw [show (min (x : Int) (y : Int)) = ((min x y : Nat) : Int) by omega]
                        exact (by repeat (first | exact hB.setNat _ _ | (with_reducible refine Blk.alloc ?_ _) | (with_reducible refine Blk.drewN ?_ _) | (with_reducible refine Blk.drew ?_) | (with_reducible refine Blk.ext ?_ _) | (with_reducible refine Blk.other ?_ (by first | omega | (simp; done) | (simp; omega)) _ _)))
                      · exact (by repeat (first | exact hbel | exact Below.refl _ _ | (with_reducible refine Below.setCell ?_ (by first | omega | (simp; done) | (simp; omega)) _) | (with_reducible refine Below.alloc ?_ (by first | omega | (simp; done) | (simp; omega)) _) | (with_reducible refine Below.onDrewN ?_ _) | (with_reducible refine Below.drew ?_) | (with_reducible refine Below.ofExt ?_ (by first | omega | (simp; done) | (simp; omega)))))
                    case measure => simp [intOf]; omega
                  · have HR2 := Lib.hid (HR.no (fun e => hd (nr_symm _ _ e).2.2))
                    clear hfl HR
                    generalize tn L i = ti at *
                    generalize tn L j = tj at *
                    generalize F4.getD i 0 = x at *
                    generalize F4.getD j 0 = y at *
                    go_wp2_with fail
                    refine wp_region_ext (by kernel_rfl) (by kernel_rfl) ?_
                    repeat (go_big_quiet_step ((first | (go_at_call 13; exact Calls.ext_of (RDistance_any _ _ _)))))
                    refine wpQuiet_nil ?_
                    rintro _ ⟨z, rfl⟩
                    go_wp2
                    go_roundw
                    case rel => exact ⟨j + 1, F4, by omega, by go_num, HR2.out, (by repeat (first | exact hB | (with_reducible refine Blk.alloc ?_ _) | (with_reducible refine Blk.drewN ?_ _) | (with_reducible refine Blk.drew ?_) | (with_reducible refine Blk.ext ?_ _) | (with_reducible refine Blk.other ?_ (by first | omega | (simp; done) | (simp; omega)) _ _))), (by repeat (first | exact hbel | exact Below.refl _ _ | (with_reducible refine Below.setCell ?_ (by first | omega | (simp; done) | (simp; omega)) _) | (with_reducible refine Below.alloc ?_ (by first | omega | (simp; done) | (simp; omega)) _) | (with_reducible refine Below.onDrewN ?_ _) | (with_reducible refine Below.drew ?_) | (with_reducible refine Below.ofExt ?_ (by first | omega | (simp; done) | (simp; omega)))))⟩
                    case measure => simp [intOf]; omega
                · obtain rfl : j = k := by omega
                  have HR2 := Lib.hid (HR.next (fun a b h => by have := h.1; rw [HN.out] at this; exact this))
                  clear HR
                  go_wp2
                  go_roundw
                  case rel => exact ⟨i + 1, F4, by omega, by go_num, HR2.out, hB, hbel⟩
                  case measure => simp [intOf]; omega
            · obtain rfl : i = k := by omega
              have HR2 := Lib.hid HR.round
              clear HR
              go_wp2
              go_roundw
              case rel => exact ⟨t + 1, F3, by omega, by go_num, HR2.out, hB, hbel⟩
              case measure => simp [intOf]; omega
        · obtain rfl : t = k := by omega
          have HQ := Lib.hid (fun j (hj : j < t) => HR.root (fun a b h => by have := h.2.1; rw [HN.out] at this; exact this) hj)
          have hfl := HR.len
          clear HR
          go_wp2
          generalize hg2 : wr.heap.size = g2
          have hg2' : w.heap.size < g2 := by omega
          go_loopw [12, 11] (fun i l wr2 => ∃ (i0 c0 : Nat) (Y : List Int), i0 ≤ t ∧ c0 ≤ i0 ∧ i = .int .i64 i0 ∧ l = .int .i64 c0 ∧ Numd (Nr L tol) t i0 c0 Y ∧ Blk wr2 w.heap.size 3 (nats F2) ∧ Blk wr2 g2 3 (ints Y) ∧ Below w.heap.size w wr2) (fun i _ _ => t - (intOf i).toNat)
          case atStart => exact ⟨0, 0, _, by omega, by omega, rfl, rfl, numd_start t, (by repeat (first | exact hB | (with_reducible refine Blk.alloc ?_ _) | (with_reducible refine Blk.drewN ?_ _) | (with_reducible refine Blk.drew ?_) | (with_reducible refine Blk.ext ?_ _) | (with_reducible refine Blk.other ?_ (by first | omega | (simp; done) | (simp; omega)) _ _))), blk_ints _ _ _ hg2.symm, (by repeat (first | exact hbel | exact Below.refl _ _ | (with_reducible refine Below.setCell ?_ (by first | omega | (simp; done) | (simp; omega)) _) | (with_reducible refine Below.alloc ?_ (by first | omega | (simp; done) | (simp; omega)) _) | (with_reducible refine Below.onDrewN ?_ _) | (with_reducible refine Below.drew ?_) | (with_reducible refine Below.ofExt ?_ (by first | omega | (simp; done) | (simp; omega)))))⟩
          case round =>
            clear hB hbel
            obtain ⟨i, c0, Y, hi, hc0, rfl, rfl, hY, hB, hB2, hbel⟩ := hrel
            have hsz := hB.lt
            have hsz2 := hB2.lt
            by_cases hlti : i < t
            · have cf := hB.nat (k := i) (by omega)
              have hyl := hY.len
              have hr := HQ.out i hlti
              have hrle := hr.le
              have hrl := Lib.hid hr
              clear hr
              have cy := hB2.int (k := F2.getD i 0) (by omega)
              have fy := hB2.free i
              have cyi := hB2.int (k := i) (by omega)
              by_cases he : F2.getD i 0 = i
              · have HY := Lib.hid (hY.first hlti (by have := hrl.out; rw [he] at this; exact this))
                have heb : (((F2.getD i 0 : Nat) : Int) == (i : Int)) = true := by rw [he]; simp
                clear hyl hY he cy
                generalize F2.getD i 0 = x at *
                go_wp2
                go_roundw
                case rel => exact ⟨i + 1, c0 + 1, _, by omega, by omega, by go_num, by go_num, HY.out, (by repeat (first | exact hB | (with_reducible refine Blk.alloc ?_ _) | (with_reducible refine Blk.drewN ?_ _) | (with_reducible refine Blk.drew ?_) | (with_reducible refine Blk.ext ?_ _) | (with_reducible refine Blk.other ?_ (by first | omega | (simp; done) | (simp; omega)) _ _))), (by repeat (first | exact hB2.setInt _ _ | (with_reducible refine Blk.alloc ?_ _) | (with_reducible refine Blk.drewN ?_ _) | (with_reducible refine Blk.drew ?_) | (with_reducible refine Blk.ext ?_ _) | (with_reducible refine Blk.other ?_ (by first | omega | (simp; done) | (simp; omega)) _ _))), (by repeat (first | exact hbel | exact Below.refl _ _ | (with_reducible refine Below.setCell ?_ (by first | omega | (simp; done) | (simp; omega)) _) | (with_reducible refine Below.alloc ?_ (by first | omega | (simp; done) | (simp; omega)) _) | (with_reducible refine Below.onDrewN ?_ _) | (with_reducible refine Below.drew ?_) | (with_reducible refine Below.ofExt ?_ (by first | omega | (simp; done) | (simp; omega)))))⟩
                case measure => simp [intOf]; omega
              · have HY := Lib.hid (hY.later nr_symm hlti hrl.out he)
                have heb : (((F2.getD i 0 : Nat) : Int) == (i : Int)) = false := by rw [beq_eq_false_iff_ne]; omega
                clear hyl hY he
                generalize F2.getD i 0 = x at *
                go_wp2
                go_roundw
                case rel => exact ⟨i + 1, c0, _, by omega, by omega, by go_num, by go_num, HY.out, (by repeat (first | exact hB | (with_reducible refine Blk.alloc ?_ _) | (with_reducible refine Blk.drewN ?_ _) | (with_reducible refine Blk.drew ?_) | (with_reducible refine Blk.ext ?_ _) | (with_reducible refine Blk.other ?_ (by first | omega | (simp; done) | (simp; omega)) _ _))), (by repeat (first | exact hB2.setInt _ _ | (with_reducible refine Blk.alloc ?_ _) | (with_reducible refine Blk.drewN ?_ _) | (with_reducible refine Blk.drew ?_) | (with_reducible refine Blk.ext ?_ _) | (with_reducible refine Blk.other ?_ (by first | omega | (simp; done) | (simp; omega)) _ _))), (by repeat (first | exact hbel | exact Below.refl _ _ | (with_reducible refine Below.setCell ?_ (by first | omega | (simp; done) | (simp; omega)) _) | (with_reducible refine Below.alloc ?_ (by first | omega | (simp; done) | (simp; omega)) _) | (with_reducible refine Below.onDrewN ?_ _) | (with_reducible refine Below.drew ?_) | (with_reducible refine Below.ofExt ?_ (by first | omega | (simp; done) | (simp; omega)))))⟩
                case measure => simp [intOf]; omega
            · obtain rfl : i = t := by omega
              have HZ := Lib.hid (lots_unique HX.out hY.ok)
              clear hY
              go_wp2
              go_ret2
              refine ⟨g2, rfl, ?_, (below_ext (by repeat (first | exact hbel | exact Below.refl _ _ | (with_reducible refine Below.setCell ?_ (by first | omega | (simp; done) | (simp; omega)) _) | (with_reducible refine Below.alloc ?_ (by first | omega | (simp; done) | (simp; omega)) _) | (with_reducible refine Below.onDrewN ?_ _) | (with_reducible refine Below.drew ?_) | (with_reducible refine Below.ofExt ?_ (by first | omega | (simp; done) | (simp; omega))))))⟩
              rw [HZ.out]
              exact hB2
set_option maxHeartbeats 400000 in
theorem RLots_long (a : Option Addr) (c n : Nat) (tol : Int) (w : World) (hm : 20 < n) :
    Calls Try.prog 15 #[.slice a n c, .int .i64 tol] w fun e w' => e = .returned (.tuple #[.slice none 0 0, .int .i64 5]) ∧ w' = w := by
  go_enter Try.func15, Try.ntmps15
  go_wp2
  go_ret2
  exact ⟨rfl, rfl⟩
set_option maxHeartbeats 400000 in
theorem RLots_neg (a : Option Addr) (c n : Nat) (tol : Int) (w : World) (hm : n ≤ 20) (ht : tol < 0) :
    Calls Try.prog 15 #[.slice a n c, .int .i64 tol] w fun e w' => e = .returned (.tuple #[.slice none 0 0, .int .i64 3]) ∧ w' = w := by
  go_enter Try.func15, Try.ntmps15
  go_wp2
  go_ret2
  exact ⟨rfl, rfl⟩
end Go.Proofs.Ytjfckjmdcfiacaa
