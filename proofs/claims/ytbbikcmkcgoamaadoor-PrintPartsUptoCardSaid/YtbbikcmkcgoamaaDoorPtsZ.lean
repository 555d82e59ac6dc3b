/-
  PrintParts: the markup of a node is that of its kids, one behind the other, and unlike normal nodes have unlike markup: proved for all trees of bulk at most 1048576 (the second form of the statement, as a tied card: the tables first and acceptRanges of unicode/utf8 hold what the program's text lays).
-/
import Derived.Test.YtbbikcmkcgoamaaDoorPtsM10
import Derived.Test.YtbbikcmkcgoamaaDoorPtsM14
import Derived.Test.YtbbikcmkcgoamaaDoorPtsM15
namespace Go.Proofs.YtbbikcmkcgoamaaDoor.printParts
open Go.RowKit Go.Proofs.YtbbikcmkcgoamaaDoorW.PrintWords Go.Proofs.YtbbikcmkcgoamaaDoorW.PrintLast Go.Proofs.YtbbikcmkcgoamaaDoorW.PrintMore Go.Proofs.YtbbikcmkcgoamaaDoor.Pp
open Go.ChangeShapes Go.WideShapes Go.ChangeAt
set_option linter.unusedVariables false
set_option linter.unusedSimpArgs false

set_option maxRecDepth 100000 in
theorem contract (H : Type) (enc : TypeId × Value → H) (W : World) (base : Nat) (args : Array Value) (ds gs : List (DataW H)) (before : List MemPlace)
    (hval : ∀ (j : Nat) t v, Tryd.f4.params[j]? = some t → args[j]? = some v → Value.okWide Tryd.prog W .any base t v)
    (hW : DataW.Whole enc Tryd.prog Tryd.f4.params.toList Rows.printPartsSpec.vars false W args.toList ds gs before) (hL : laidMetH Tryd.prog Rows.printPartsUptoRow.laid W) (hk : Rows.uptoSmall H (ds ++ gs) = true) :
    Calls Tryd.prog 4 args W fun e W' => ∃ v, e = .returned v ∧ Rows.printPartsSpec.post enc Tryd.prog Tryd.f4 false true false false W args v W' := by
  have hW' := hW
  obtain ⟨p, q, hA0, hV, rfl, hfz, hnd⟩ := hW
  have hA : DataW.TrodAll enc Tryd.prog W 0 (fun _ => true) true Tryd.f4.params.toList args.toList ds p := hA0
  rw [Tryd.params4] at hA hval
  obtain ⟨v0, vs0, d0, ds0, p0, q0, hargs, rfl, rfl, h0, r0⟩ := trodAll_cons hA
  obtain ⟨v1, vs1, d1, ds1, p1, q1, rfl, rfl, rfl, h1, r1⟩ := trodAll_cons r0
  obtain ⟨rfl, rfl, rfl⟩ := trodAll_nil r1
  obtain rfl : args = #[v0, v1] := by cases args; simp_all
  obtain ⟨rfl, rfl⟩ := trodVars_none hV
  obtain ⟨n, A1, c1, A3, c3, rfl, a1, a2, a3, a4, an⟩ := open_tree (hval 0 _ v0 rfl rfl) h0
  obtain ⟨m, B1, d1', B3, d3', rfl, b1, b2, b3, b4, bn⟩ := open_tree (hval 1 _ v1 rfl rfl) h1
  have hbulk : Rows.uptoBulkAll ([d0, d1] ++ []) ≤ 1048576 := of_decide_eq_true hk
  simp only [List.append_nil, Rows.uptoBulkAll] at hbulk
  have hn : nsz n ≤ 1048576 := by omega
  have hm : nsz m ≤ 1048576 := by omega
  have hT := tabs_of hL
  obtain ⟨hnb, hne⟩ := heavy_ev n (by omega)
  obtain ⟨hmb, hme⟩ := heavy_ev m (by omega)
  obtain ⟨sm, hse, hst⟩ := same_ev _ n m (Nat.le_refl _) (by omega)
  obtain ⟨K1, hK1⟩ := Ev.and hne hme
  obtain ⟨K2, hK2⟩ := hse
  have e1 := hK1 (max K1 K2) (by omega)
  have e2 := hK2 (max K1 K2) (by omega)
  have s1 := kidsP_len_n n
  have s2 := kidsP_len_n m
  have s3 := tsz_le _ n (Nat.le_refl _)
  have s4 := tsz_le _ m (Nat.le_refl _)
  have l0 := trod_blocks h0
  have l1 := trod_blocks h1
  clear hA0 hA hval hfz hnd hk hL
  refine (parts_calls n m A1 c1 A3 c3 B1 d1' B3 d3' W a1 a2 a3 a4 b1 b2 b3 b4 hT (max K1 K2) hnb hmb sm e1.1 e1.2 (by omega) (by omega) (by omega) (by omega) e2 (fun hx hy => ⟨fun h => hst.2 (normal_inj hx hy h), fun h => by rw [hst.1 h]⟩)).mono fun e W' ⟨he, bel⟩ => ?_
  subst he
  exact ⟨_, rfl, _, _, _, [], _, [], hW', trodAll_mk1 (shut_bool Tryd.underlying4 _), trodAll_cons_mk (Below.trod laidOut (by kernel_rfl) (of_decide_eq_true (by kernel_rfl)) h0 bel l0) (trodAll_cons_mk (Below.trod laidOut (by kernel_rfl) (of_decide_eq_true (by kernel_rfl)) h1 bel l1) trodAll_mk0), rfl, bel.frame _, fun h => by cases h⟩

/-- The witness's argument. -/
def nil4 : Value := .agg #[.int .i64 0, .slice none 0 0, .string ⟨#[]⟩, .slice none 0 0]
theorem witness_row (os : Os) {H : Type} (enc : TypeId × Value → H) :
    (Rows.OpenSpec.upto Rows.printPartsSpec).preRow enc Tryd.prog Tryd.f4 Rows.printPartsUptoRow.domain false Rows.printPartsUptoRow.laid ((laidWorld os).forCall (fun _ _ => 0) ⟨#[], #[nil4, nil4], []⟩).memory #[nil4, nil4] := by
  have hw : (DataW.whole enc Tryd.prog ((laidWorld os).forCall (fun _ _ => 0) ⟨#[], #[nil4, nil4], []⟩).memory Tryd.f4.params.toList Rows.printPartsSpec.vars false #[nil4, nil4].toList 8).map (fun x => (x.1, x.2.1)) =
      some ([.agg [.lit (.int .i64 0), .nil, .lit (.string []), .nil], .agg [.lit (.int .i64 0), .nil, .lit (.string []), .nil]], []) := by kernel_rfl
  obtain ⟨⟨x1, x2, x3⟩, hx, hx1⟩ := Option.map_eq_some_iff.1 hw
  simp only [Prod.mk.injEq] at hx1
  obtain ⟨rfl, rfl⟩ := hx1
  exact OpenSpec.preRow_of_cond 8 hx (by kernel_rfl) (fun k hk => by cases hk; kernel_rfl) (by kernel_rfl) (laid_met os _)

set_option maxRecDepth 100000 in
theorem lifted (os : Os) (started : os.Started) (H : Type) (enc : TypeId × Value → H) (F : Stop.Interp) :
    ReturnsInHanded {} Tryd.checked os 4 .any ((Rows.OpenSpec.upto Rows.printPartsSpec).preRow enc Tryd.prog Tryd.f4 Rows.printPartsUptoRow.domain false Rows.printPartsUptoRow.laid) (((Rows.OpenSpec.upto Rows.printPartsSpec).at F).post enc Tryd.prog Tryd.f4 false true false false) := by
  refine returnsInHanded_of_row (C := Tryd.checked) (s := Rows.OpenSpec.upto Rows.printPartsSpec) own started (by kernel_rfl) Tryd.func4
    (witness_row_atRef (enc := enc) (C := Tryd.checked) false (laidWorld os) #[nil4, nil4] rfl (by kernel_rfl) (by kernel_rfl) (by kernel_rfl) (witness_row os enc)) ?_
  intro W base args ds gs before hval hW _ hcond _ hL _ _
  exact contract H enc W base args ds gs before hval hW hL (hcond _ rfl)
theorem said : Rows.PrintPartsUptoSaid :=
  OpenClaim.holds_of_cond 4 Tryd.f4 rfl rfl rfl rfl rfl rfl rfl ⟨rfl, rfl, rfl, rfl, rfl⟩ rfl rfl rfl rfl rfl (by kernel_rfl) Tryd.func4 (by kernel_rfl)
    (of_decide_eq_true (by kernel_rfl)) (by unfold Func.isWrapper; first | (rw [if_pos (by decide +kernel)]; kernel_rfl) | (rw [if_neg (by decide +kernel)]; exact ⟨rfl, rfl⟩))
    (fun os started H enc _ F => by rw [OpenClaim.pre_eq_preRow]; exact lifted os started H enc F)
theorem plain (f : FuncId) (fn : Func) (hf : Tryd.pinned.checked.prog.funcNamed "quillwork/quillworklaw16.PrintParts" = some f) (hfn : Tryd.pinned.checked.prog.funcs[f]? = some fn) :
    false = Tryd.pinned.checked.prog.looks [] ∧ ∀ (j : Nat) t, fn.params[j]? = some t → Tryd.pinned.checked.prog.wantsStandIn t = false := by
  obtain rfl : f = 4 := Option.some.inj ((show Tryd.prog.funcNamed "quillwork/quillworklaw16.PrintParts" = some 4 by kernel_rfl).symm.trans hf) |>.symm
  obtain rfl : fn = Tryd.f4 := (Option.some.inj (Tryd.func4.symm.trans hfn)).symm
  refine ⟨by kernel_rfl, fun j t ht => ?_⟩
  rw [Tryd.params4] at ht
  have hm : t ∈ [25, 25] := by simpa using Array.mem_of_getElem? ht
  obtain rfl : t = 25 := by simpa using hm
  exact (show Tryd.prog.wantsStandIn 25 = false by kernel_rfl)
end Go.Proofs.YtbbikcmkcgoamaaDoor.printParts
namespace Go.Proofs.YtbbikcmkcgoamaaDoor
/-- The card. -/
theorem printParts_card : Rows.PrintPartsUptoCardSaid :=
  Claim7.holds_tied_plain_at .later [] _ _ _ _ printParts.said (fun _ h => by cases h) (by kernel_rfl) (fun _ h => by cases h) printPartsUpto_row_tie rfl ⟨rfl, rfl⟩ (by kernel_rfl) rfl printParts.plain (by kernel_rfl)
#print axioms printParts_card
end Go.Proofs.YtbbikcmkcgoamaaDoor
