/-
  A drawn region with forks: all its orders come to one picture, from which the rest goes on.
-/
import Derived.Test.YtaeeipojnfooeaaAI15
namespace Go.Proofs.Ytaeeipojnfooeaa
open Go.RowKit
set_option linter.unusedVariables false
set_option linter.unusedSimpArgs false
/-- Done, at a picture that holds all that S' holds. -/
def qK (S' : AS) : QE := fun e s => e = .normal ∧ ∃ ρ, Sub ρ S' s
theorem qK_panic {S' : AS} : ∀ c s, ¬ qK S' (.panic c) s := fun c s h => by cases h.1
theorem sw_drawnK {P : Program} {id : Nat} {ops : Array Oper} {st : List It} {s : AS} {Q : QE} (S' : AS) (ord : OrdT) (hm : P.follows .mixedOrders = true) (hc : (Region.noSelect ops && (wellOrd ord && !isAlt ord) && chkOrd ops ord ops.size (Array.replicate ops.size false)) = true)
    (h : SW P [.dr ops.toList ord] s (qK S')) (hk : SW P st S' Q) : SW P (.code (.region id ops true) :: st) s Q := fun w0 G a w hr =>
  wp_mono ((sw_drawn (st := []) ord hm qK_panic hc h) w0 G a w hr) fun e a' w' ⟨G', s', hr', hq⟩ => by
    have hq' : qK S' e s' := by cases e <;> first | exact hq | (cases hq.1)
    obtain ⟨rfl, ρ, hs⟩ := hq'
    obtain ⟨G'', hr''⟩ := hr'.sub hs
    exact ⟨G'', S', hr'', hk⟩
/-- The same, with the other numbers given. -/
def qKr (ρ : Nat → Nat) (S' : AS) : QE := fun e s => e = .normal ∧ Sub ρ S' s
theorem sw_drawnKr {P : Program} {id : Nat} {ops : Array Oper} {st : List It} {s : AS} {Q : QE} (ρ : Nat → Nat) (S' : AS) (ord : OrdT) (hm : P.follows .mixedOrders = true) (hc : (Region.noSelect ops && (wellOrd ord && !isAlt ord) && chkOrd ops ord ops.size (Array.replicate ops.size false)) = true)
    (h : SW P [.dr ops.toList ord] s (qKr ρ S')) (hk : SW P st S' Q) : SW P (.code (.region id ops true) :: st) s Q := fun w0 G a w hr =>
  wp_mono ((sw_drawn (st := []) ord hm (fun c s h => by cases h.1) hc h) w0 G a w hr) fun e a' w' ⟨G', s', hr', hq⟩ => by
    have hq' : qKr ρ S' e s' := by cases e <;> first | exact hq | (cases hq.1)
    obtain ⟨rfl, hs⟩ := hq'
    obtain ⟨G'', hr''⟩ := hr'.sub hs
    exact ⟨G'', S', hr'', hk⟩
end Go.Proofs.Ytaeeipojnfooeaa
