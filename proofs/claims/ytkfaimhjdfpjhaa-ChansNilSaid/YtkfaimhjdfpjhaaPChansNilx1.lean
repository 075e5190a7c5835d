-- laid by fake.py, a program of this session's, over the kit's print
import Derived.Test.YtkfaimhjdfpjhaaPChansNilx0
namespace Go.Proofs.Ytkfaimhjdfpjhaa.PChansNil
open Go.RowKit Go.Proofs.YtkfaimhjdfpjhaaW.PrintWords Go.Proofs.YtkfaimhjdfpjhaaW.PrintLast Go.Proofs.YtkfaimhjdfpjhaaW.PrintMore
attribute [local go_sem] Go.Proofs.YtkfaimhjdfpjhaaW.Mine.isSome_set max2_int min2_int max_two min_two max_three min_three max_four min_four   -- for this text's walks alone
set_option linter.unusedVariables false
set_option linter.unusedSimpArgs false

-- NOT PRINTED: function 18 (chans_Chans_ask)

-- NOT PRINTED: function 8 (chans_Chans_Selected)

-- NOT PRINTED: function 9 (chans_Chans_On)

-- NOT PRINTED: function 10 (chans_Chans_Open)

-- NOT PRINTED: function 11 (chans_Chans_Close)

-- NOT PRINTED: function 12 (chans_Chans_Select)

-- NOT PRINTED: function 19 (chans_fresh)

-- NOT PRINTED: function 15 (chans_New)

-- NOT PRINTED: function 7 (garderobelaw29_works)

-- NOT PRINTED: function 13 (chans_Chans_Drop)

-- NOT PRINTED: function 14 (chans_Chans_Reset)

/-! ### garderobelaw29_ChansNil: function 5 -/
def garderobelaw29_ChansNil.f (a0 : Int) (a1 : Int) (a2 : Bool) : Option (Bool) := some true
set_option maxHeartbeats 8000000 in
set_option maxRecDepth 100000 in
theorem garderobelaw29_ChansNil.calls (a0 : Int) (a1 : Int) (a2 : Bool) (r : Bool) (w : World) (h : garderobelaw29_ChansNil.f a0 a1 a2 = some r) :
    Calls Try.prog 5 #[.int .i64 a0, .int .i64 a1, .bool a2] w fun e w' => e = .returned (.bool r) ∧ Below w.heap.size w w' := by
  obtain rfl := Option.some.inj h
  exact Go.Proofs.YtkfaimhjdfpjhaaW.Chans.ChansNil_calls a0 a1 a2 w

/-- THE ONE PURE STATEMENT of garderobelaw29_ChansNil: yours. -/
def garderobelaw29_ChansNil.Pure : Prop := ∀ (a0 : Int) (a1 : Int) (a2 : Bool), (Lit.int .i64 a0).wf = true → (Lit.int .i64 a1).wf = true → garderobelaw29_ChansNil.f a0 a1 a2 = some true
theorem garderobelaw29_ChansNil.walk (P : garderobelaw29_ChansNil.Pure) (a0 : Int) (a1 : Int) (a2 : Bool) (w : World) (w0 : (Lit.int .i64 a0).wf = true) (w1 : (Lit.int .i64 a1).wf = true) :
    Calls Try.prog 5 #[.int .i64 a0, .int .i64 a1, .bool a2] w fun e w' => e = .returned (.bool true) ∧ Below w.heap.size w w' := by
  have h := P a0 a1 a2 w0 w1
  refine (garderobelaw29_ChansNil.calls a0 a1 a2 true w h).mono ?_
  rintro e w' ⟨rfl, hd⟩
  exact ⟨rfl, hd⟩

end Go.Proofs.Ytkfaimhjdfpjhaa.PChansNil
