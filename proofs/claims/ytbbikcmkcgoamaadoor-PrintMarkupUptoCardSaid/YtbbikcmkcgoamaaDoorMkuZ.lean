/-
  PrintMarkup: any node's markup, inner markup, and whether it is normal, are the document's: proved for all trees of bulk at most 1048576 (the second form of the statement, as a tied card: the tables first and acceptRanges of unicode/utf8 hold what the program's text lays).
-/
import Derived.Test.YtbbikcmkcgoamaaDoorMkuM9
import Derived.Test.YtbbikcmkcgoamaaDoorMkuM18
set_option linter.unusedSimpArgs false
set_option linter.unusedVariables false
namespace Go.Proofs.YtbbikcmkcgoamaaDoor.printMarkup
open Go.RowKit Go.Proofs.YtbbikcmkcgoamaaDoorW.PrintWords Go.Proofs.YtbbikcmkcgoamaaDoorW.PrintLast Go.Proofs.YtbbikcmkcgoamaaDoorW.PrintMore Go.Proofs.YtbbikcmkcgoamaaDoor.Pp
open Go.ChangeShapes Go.WideShapes Go.ChangeAt
set_option maxRecDepth 100000 in
theorem contract (H : Type) (enc : TypeId × Value → H) (W : World) (base : Nat) (args : Array Value) (ds gs : List (DataW H)) (before : List MemPlace)
 (hval : ∀ (j : Nat) t v, Tryd.f3.params[j]? = some t → args[j]? = some v → Value.okWide Tryd.prog W .any base t v)
 (hW : DataW.Whole enc Tryd.prog Tryd.f3.params.toList Rows.printMarkupSpec.vars false W args.toList ds gs before) (hL : laidMetH Tryd.prog Rows.printMarkupUptoRow.laid W) (hk : Rows.uptoSmall H (ds ++ gs) = true) :
 Calls Tryd.prog 3 args W fun e W' => ∃ v, e = .returned v ∧ Rows.printMarkupSpec.post enc Tryd.prog Tryd.f3 false true false false W args v W' := by
 have hW' := hW; obtain ⟨p, q, hA0, hV, rfl, hfz, hnd⟩ := hW; have hA : DataW.TrodAll enc Tryd.prog W 0 (fun _ => true) true Tryd.f3.params.toList args.toList ds p := hA0; rw [Tryd.params3] at hA hval; obtain ⟨v0, vs0, d0, ds0, p0, q0, hargs, rfl, rfl, h0, r0⟩ := trodAll_cons hA; obtain ⟨rfl, rfl, rfl⟩ := trodAll_nil r0; obtain rfl : args = #[v0] := by cases args; simp_all
 obtain ⟨rfl, rfl⟩ := trodVars_none hV; obtain ⟨n, A1, c1, A3, c3, rfl, a1, a2, a3, a4, an⟩ := open_tree (hval 0 _ v0 rfl rfl) h0; have hbulk : Rows.uptoBulkAll ([d0] ++ []) ≤ 1048576 := of_decide_eq_true hk; simp only [List.append_nil, Rows.uptoBulkAll] at hbulk; have hT := tabs_of hL; have l0 := trod_blocks h0; clear hA0 hA hval hfz hnd hk hL; refine (markup_calls n A1 c1 A3 c3 W a1 a2 a3 a4 hT (by omega)).mono fun e W' ⟨he, bel⟩ => ?_
 subst he; exact ⟨_, rfl, _, _, _, [], _, [], hW', trodAll_mk1 (shut_bool Tryd.underlying4 _), trodAll_cons_mk (Below.trod laidOut (by kernel_rfl) (of_decide_eq_true (by kernel_rfl)) h0 bel l0) trodAll_mk0, rfl, bel.frame _, fun h => by cases h⟩
def nil4 : Value := .agg #[.int .i64 0, .slice none 0 0, .string ⟨#[]⟩, .slice none 0 0]
theorem witness_row (os : Os) {H : Type} (enc : TypeId × Value → H) :
 (Rows.OpenSpec.upto Rows.printMarkupSpec).preRow enc Tryd.prog Tryd.f3 Rows.printMarkupUptoRow.domain false Rows.printMarkupUptoRow.laid ((laidWorld os).forCall (fun _ _ => 0) ⟨#[], #[nil4], []⟩).memory #[nil4] := by
 have hw : (DataW.whole enc Tryd.prog ((laidWorld os).forCall (fun _ _ => 0) ⟨#[], #[nil4], []⟩).memory Tryd.f3.params.toList Rows.printMarkupSpec.vars false #[nil4].toList 8).map (fun x => (x.1, x.2.1)) =
  some ([.agg [.lit (.int .i64 0), .nil, .lit (.string []), .nil]], []) := by kernel_rfl
 obtain ⟨⟨x1, x2, x3⟩, hx, hx1⟩ := Option.map_eq_some_iff.1 hw; simp only [Prod.mk.injEq] at hx1; obtain ⟨rfl, rfl⟩ := hx1; exact OpenSpec.preRow_of_cond 8 hx (by kernel_rfl) (fun k hk => by cases hk; kernel_rfl) (by kernel_rfl) (laid_met os _)
set_option maxRecDepth 100000 in
theorem lifted (os : Os) (started : os.Started) (H : Type) (enc : TypeId × Value → H) (F : Stop.Interp) :
 ReturnsInHanded {} Tryd.checked os 3 .any ((Rows.OpenSpec.upto Rows.printMarkupSpec).preRow enc Tryd.prog Tryd.f3 Rows.printMarkupUptoRow.domain false Rows.printMarkupUptoRow.laid) (((Rows.OpenSpec.upto Rows.printMarkupSpec).at F).post enc Tryd.prog Tryd.f3 false true false false) := by
 refine returnsInHanded_of_row (C := Tryd.checked) (s := Rows.OpenSpec.upto Rows.printMarkupSpec) own started (by kernel_rfl) Tryd.func3
  (witness_row_atRef (enc := enc) (C := Tryd.checked) false (laidWorld os) #[nil4] rfl (by kernel_rfl) (by kernel_rfl) (by kernel_rfl) (witness_row os enc)) ?_
 intro W base args ds gs before hval hW _ hcond _ hL _ _; exact contract H enc W base args ds gs before hval hW hL (hcond _ rfl)
theorem said : Rows.PrintMarkupUptoSaid :=
 OpenClaim.holds_of_cond 3 Tryd.f3 rfl rfl rfl rfl rfl rfl rfl ⟨rfl, rfl, rfl, rfl, rfl⟩ rfl rfl rfl rfl rfl (by kernel_rfl) Tryd.func3 (by kernel_rfl)
  (of_decide_eq_true (by kernel_rfl)) (by unfold Func.isWrapper; first | (rw [if_pos (by decide +kernel)]; kernel_rfl) | (rw [if_neg (by decide +kernel)]; exact ⟨rfl, rfl⟩))
  (fun os started H enc _ F => by rw [OpenClaim.pre_eq_preRow]; exact lifted os started H enc F)
theorem plain (f : FuncId) (fn : Func) (hf : Tryd.pinned.checked.prog.funcNamed "quillwork/quillworklaw16.PrintMarkup" = some f) (hfn : Tryd.pinned.checked.prog.funcs[f]? = some fn) :
 false = Tryd.pinned.checked.prog.looks [] ∧ ∀ (j : Nat) t, fn.params[j]? = some t → Tryd.pinned.checked.prog.wantsStandIn t = false := by
 obtain rfl : f = 3 := Option.some.inj ((show Tryd.prog.funcNamed "quillwork/quillworklaw16.PrintMarkup" = some 3 by kernel_rfl).symm.trans hf) |>.symm
 obtain rfl : fn = Tryd.f3 := (Option.some.inj (Tryd.func3.symm.trans hfn)).symm; refine ⟨by kernel_rfl, fun j t ht => ?_⟩; rw [Tryd.params3] at ht; have hm : t ∈ [25] := by simpa using Array.mem_of_getElem? ht
 obtain rfl : t = 25 := by simpa using hm
 exact (show Tryd.prog.wantsStandIn 25 = false by kernel_rfl)
end Go.Proofs.YtbbikcmkcgoamaaDoor.printMarkup
namespace Go.Proofs.YtbbikcmkcgoamaaDoor
theorem printMarkup_card : Rows.PrintMarkupUptoCardSaid :=
 Claim7.holds_tied_plain_at .later [] _ _ _ _ printMarkup.said (fun _ h => by cases h) (by kernel_rfl) (fun _ h => by cases h) printMarkupUpto_row_tie rfl ⟨rfl, rfl⟩ (by kernel_rfl) rfl printMarkup.plain (by kernel_rfl)
#print axioms printMarkup_card
end Go.Proofs.YtbbikcmkcgoamaaDoor
