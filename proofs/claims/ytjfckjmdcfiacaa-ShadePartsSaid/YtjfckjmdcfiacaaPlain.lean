/-
  The plain mathematics of tones: limits and distances; no program in sight.
-/
import Derived.KernelRfl
namespace Go.Proofs.Ytjfckjmdcfiacaa

/-- A component as it counts. -/
def lm (n : Int) : Int := min (max n (-1000)) 1000
/-- A tone. -/
structure Tone where
  l : Int
  a : Int
  b : Int
def Tone.lim (t : Tone) : Tone := ⟨lm t.l, lm t.a, lm t.b⟩
/-- The difference of two components. -/
def ap (x y : Int) : Int := max (lm x - lm y) (lm y - lm x)
/-- The distance of two tones. -/
def dist (t u : Tone) : Int := max (max (ap t.l u.l) (ap t.a u.a)) (ap t.b u.b)
theorem lm_bd (n : Int) : -1000 ≤ lm n ∧ lm n ≤ 1000 := by unfold lm; omega
theorem lm_lm (n : Int) : lm (lm n) = lm n := by unfold lm; omega
theorem ap_bd (x y : Int) : 0 ≤ ap x y ∧ ap x y ≤ 2000 := by
  have := lm_bd x; have := lm_bd y; unfold ap; omega
theorem dist_bd (t u : Tone) : 0 ≤ dist t u ∧ dist t u ≤ 2000 := by
  have := ap_bd t.l u.l; have := ap_bd t.a u.a; have := ap_bd t.b u.b; unfold dist; omega
theorem dist_symm (t u : Tone) : dist t u = dist u t := by unfold dist ap; omega
theorem dist_self (t : Tone) : dist t t = 0 := by unfold dist ap; omega
theorem ap_tri (x y z : Int) : ap x z ≤ ap x y + ap y z := by unfold ap; omega
theorem dist_tri (t u v : Tone) : dist t v ≤ dist t u + dist u v := by
  have h1 := ap_tri t.l u.l v.l
  have h2 := ap_tri t.a u.a v.a
  have h3 := ap_tri t.b u.b v.b
  unfold dist
  omega
end Go.Proofs.Ytjfckjmdcfiacaa
