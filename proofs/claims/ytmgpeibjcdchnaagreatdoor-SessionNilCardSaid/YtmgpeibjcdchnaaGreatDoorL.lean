/- SessionNil's contract, and what the row asks, out of the run. No condition. -/
import Derived.Test.YtmgpeibjcdchnaaGreatDoorR1
import Derived.Test.YtmgpeibjcdchnaaGreatDoorE3
import Derived.Test.YtmgpeibjcdchnaaGreatDoorRows
import Derived.Lay
import Derived.LaidOnce
import Derived.SevenTiedAt
/- SessionNil -/
namespace Go.Proofs.YtmgpeibjcdchnaaGreatDoor
open Go Go.Eng Go.ChangeMaps Go.ChangeShapes Go.WideShapes Go.ChangeAt Go.RowKit

theorem fE_eq : Go.Eng.Reach Sn.P Sn.E Sn.c17 ⟨[c0of Sn.c17], Sn.c17.h, none⟩ := by
  have h : (⟨[c0of Sn.c17], Sn.c17.h, none⟩ : Cfg) = Sn.c17 := by kernel_rfl
  rw [h]
  exact fun ρ fs w s => ⟨ρ, fs, w, s, Ext.refl _ _ _, fun _ => .refl _ _⟩

theorem law (s0 s1 : ByteArray) (n : Int) (w : World) (hg : Sn.E.nG ≤ w.heap.size) :
    Calls Tryz.prog 3 #[.string s0, .string s1, .int .i64 n] w fun e w' => e = .returned (.bool true) ∧ Below w.heap.size w w' := by
  have ha : enterA Sn.E 3 [strOf s0, strOf s1, .sc (.int .i64 n)] = some (c0of (Sn.c0 s0 s1 n)) := by kernel_rfl
  have hc : (⟨[c0of (Sn.c0 s0 s1 n)], heap0 Sn.E.nG, none⟩ : Cfg) = Sn.c0 s0 s1 n := by kernel_rfl
  have hr := calls_of (g := 3) (fE := c0of Sn.c17) (hE := Sn.c17.h) (v := .sc (.bool true)) (args' := #[.string s0, .string s1, .int .i64 n]) Sn.ok hg ha ⟨_, _, rfl, R_strOf s0, _, _, rfl, R_strOf s1, _, _, rfl, by simp [R], rfl⟩ (by rw [hc]; exact (Sn.main_run s0 s1 n).trans fE_eq)
    (by kernel_rfl) (by kernel_rfl) (by kernel_rfl) (by kernel_rfl) (by kernel_rfl)
  refine hr.mono fun e w' h => ?_
  obtain ⟨ρ', x, rfl, hx, _, hb⟩ := h
  simp only [R] at hx
  subst hx
  exact ⟨rfl, hb⟩

theorem own : ownKnob Tryz.prog.godebug = none := by kernel_rfl
theorem laidOut : laidOutB Tryz.prog = true := by kernel_rfl

set_option maxRecDepth 100000 in
theorem lifted (os : Os) (started : os.Started) (H : Type) (enc : TypeId × Value → H) :
    ReturnsInHanded {} Tryz.checked os 3 .any (fun w args => (Rows.sessionNilSpec.pre enc Tryz.prog Tryz.f3 [] false w args ∧ laidMetH Tryz.prog Rows.sessionNilRow.laid w) ∧ sizedMet enc Tryz.prog Tryz.f3 (OpenSpec.ofChange Rows.sessionNilSpec) false w args)
      (Rows.sessionNilSpec.post enc Tryz.prog Tryz.f3 false true false false) := by
  refine returns_law (C := Tryz.checked) (X := fun w _ => laidMetH Tryz.prog Rows.sessionNilRow.laid w) (fun _ _ _ hh h => h.of_heap hh) own started (by kernel_rfl) Tryz.func3
    (ChangeSpec.witness_shaped (enc := enc) (C := Tryz.checked) (os := os) (X := fun w _ => laidMetH Tryz.prog Rows.sessionNilRow.laid w) false (World.laidAll Tryz.prog os Rows.sessionNilRow.laid) #[.string .empty, .string .empty, .int .i64 0] 8 (World.laidAll_os _ _ _)
      (World.shaped_of_ZipB (by kernel_rfl) (by kernel_rfl)) (by kernel_rfl) (by kernel_rfl) (by kernel_rfl)
      (by rw [MakeChecks.laidMetH_plain _ _ _ (by kernel_rfl)]; exact laidMet_laidAll _ (by kernel_rfl) (by kernel_rfl))) ?_
  intro W base args ds gs before hsh hval0 hW _ _
  have hval : ∀ (j : Nat) t v, Tryz.f3.params[j]? = some t → args[j]? = some v → Value.okWide Tryz.prog W .any base t v := hval0
  have hW' := hW
  obtain ⟨p, q, hA0, hV, rfl, _, _⟩ := hW
  have hA : DataW.TrodAll enc Tryz.prog W 0 (fun _ => true) true Tryz.f3.params.toList args.toList ds p := hA0
  rw [Tryz.params3] at hA hval
  obtain ⟨v0, v1, v2, d0, d1, d2, p0, p1, p2, rfl, rfl, rfl, h0, h1, h2⟩ := trodAll_three hA
  obtain ⟨rfl, rfl⟩ := trodVars_none hV
  obtain ⟨s0, rfl, rfl, rfl, w0⟩ := open_string Tryz.underlying9 (hval 0 9 v0 rfl rfl) h0
  obtain ⟨s1, rfl, rfl, rfl, w1⟩ := open_string Tryz.underlying9 (hval 1 9 v1 rfl rfl) h1
  obtain ⟨x, rfl, rfl, rfl, wx⟩ := open_int Tryz.underlying3 (hval 2 3 v2 rfl rfl) h2
  simp only [List.append_nil] at hW'
  refine (law s0 s1 x W (room_of hsh (of_decide_eq_true (by kernel_rfl)))).mono fun e W' ⟨he, hb⟩ => ?_
  subst he
  exact ⟨_, rfl, _, _, _, [], [], [], hW', trodAll_mk1 (shut_bool Tryz.underlying4 _), trodAll_mk3 (shut_string Tryz.underlying9 w0) (shut_string Tryz.underlying9 w1) (shut_int Tryz.underlying3 wx), rfl, hb.frame _, fun h => by cases h⟩

end Go.Proofs.YtmgpeibjcdchnaaGreatDoor
