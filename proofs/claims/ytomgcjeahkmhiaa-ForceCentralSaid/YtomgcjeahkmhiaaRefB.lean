/- planisphereref03: the order of numbers of two words; ends. -/
import Derived.Test.YtomgcjeahkmhiaaRefA
namespace Go.Proofs.Ytomgcjeahkmhiaa
open Go.RowKit

set_option maxRecDepth 100000 in
set_option maxHeartbeats 1000000 in
theorem ref_less (T U : Int) (w : World) :
    Calls Try.prog 130 #[.agg #[.bool (decide (T < 0)), .int .u64 (absv (T) / 18446744073709551616), .int .u64 (absv (T) % 18446744073709551616)], .agg #[.bool (decide (U < 0)), .int .u64 (absv (U) / 18446744073709551616), .int .u64 (absv (U) % 18446744073709551616)]] w fun e w' => e = .returned (.bool (decide (T < U))) ∧ Ext w w' := by
  have hn : (T < 0 → absv T = -T) ∧ (0 ≤ T → absv T = T) := by unfold absv; split <;> omega
  have hm : (U < 0 → absv U = -U) ∧ (0 ≤ U → absv U = U) := by unfold absv; split <;> omega
  obtain ⟨h, eh⟩ : ∃ h : Int, h = absv T / 18446744073709551616 := ⟨_, rfl⟩
  obtain ⟨l, el⟩ : ∃ h : Int, h = absv T % 18446744073709551616 := ⟨_, rfl⟩
  obtain ⟨h', eh'⟩ : ∃ h : Int, h = absv U / 18446744073709551616 := ⟨_, rfl⟩
  obtain ⟨l', el'⟩ : ∃ h : Int, h = absv U % 18446744073709551616 := ⟨_, rfl⟩
  rw [← eh, ← el, ← eh', ← el']
  have hH : (T < 0 → U < 0 → (T < U ↔ h' < h ∨ h' = h ∧ l' < l)) ∧ (0 ≤ T → 0 ≤ U → (T < U ↔ h < h' ∨ h = h' ∧ l < l')) := by omega
  clear eh el eh' el' hn hm
  have HH := Lib.hid hH; clear hH
  by_cases hT : T < 0 <;> by_cases hU : U < 0
  · have eT : decide (T < 0) = true := by simp; omega
    have eU : decide (U < 0) = true := by simp; omega
    rw [eT, eU]
    go_enter Try.func130, Try.ntmps130
    go_wp2_with fail
    go_region
    all_goals go_wp2_with fail
    all_goals go_region
    all_goals go_wp2_with fail
    all_goals
      go_ret
      refine ⟨congrArg (fun n => Ending.returned (.bool n)) ?_, by repeat (first | exact Ext.refl _ | with_reducible assumption | refine Ext.alloc ?_ _ | refine Ext.setCell ?_ (by (try simp only [World.size_alloc, World.size_setCell]); omega) _ | refine Ext.drewN ?_ _ | refine Ext.drew ?_ | refine Ext.trans ?_ (by with_reducible assumption))⟩
      have H := HH.out.1 hT hU
      show _ = decide (T < U)
      by_cases c : T < U <;> simp [c] <;> omega
  · have eT : decide (T < 0) = true := by simp; omega
    have eU : decide (U < 0) = false := by simp; omega
    rw [eT, eU]
    go_enter Try.func130, Try.ntmps130
    go_wp2_with fail
    go_ret
    refine ⟨congrArg (fun n => Ending.returned (.bool n)) ?_, by repeat (first | exact Ext.refl _ | with_reducible assumption | refine Ext.alloc ?_ _ | refine Ext.setCell ?_ (by (try simp only [World.size_alloc, World.size_setCell]); omega) _ | refine Ext.drewN ?_ _ | refine Ext.drew ?_ | refine Ext.trans ?_ (by with_reducible assumption))⟩
    simp; omega
  · have eT : decide (T < 0) = false := by simp; omega
    have eU : decide (U < 0) = true := by simp; omega
    rw [eT, eU]
    go_enter Try.func130, Try.ntmps130
    go_wp2_with fail
    go_ret
    refine ⟨congrArg (fun n => Ending.returned (.bool n)) ?_, by repeat (first | exact Ext.refl _ | with_reducible assumption | refine Ext.alloc ?_ _ | refine Ext.setCell ?_ (by (try simp only [World.size_alloc, World.size_setCell]); omega) _ | refine Ext.drewN ?_ _ | refine Ext.drew ?_ | refine Ext.trans ?_ (by with_reducible assumption))⟩
    simp; omega
  · have eT : decide (T < 0) = false := by simp; omega
    have eU : decide (U < 0) = false := by simp; omega
    rw [eT, eU]
    go_enter Try.func130, Try.ntmps130
    go_wp2_with fail
    go_region
    all_goals go_wp2_with fail
    all_goals
      go_ret
      refine ⟨congrArg (fun n => Ending.returned (.bool n)) ?_, by repeat (first | exact Ext.refl _ | with_reducible assumption | refine Ext.alloc ?_ _ | refine Ext.setCell ?_ (by (try simp only [World.size_alloc, World.size_setCell]); omega) _ | refine Ext.drewN ?_ _ | refine Ext.drew ?_ | refine Ext.trans ?_ (by with_reducible assumption))⟩
      have H := HH.out.2 (by omega) (by omega)
      show _ = decide (T < U)
      by_cases c : T < U <;> simp [c] <;> omega

end Go.Proofs.Ytomgcjeahkmhiaa
