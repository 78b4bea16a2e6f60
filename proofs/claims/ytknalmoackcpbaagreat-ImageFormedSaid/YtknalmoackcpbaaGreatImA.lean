/- ImageFormed: any image is formed just where the document says so. No condition. -/
import Derived.Test.YtknalmoackcpbaaGreatIm9
import Derived.Test.YtknalmoackcpbaaGreatImJ
import Derived.Test.YtknalmoackcpbaaGreatRows
set_option linter.unusedSimpArgs false
set_option linter.unusedVariables false
set_option maxRecDepth 100000
set_option maxHeartbeats 3200000
namespace Go.Proofs.YtknalmoackcpbaaGreat
open Go Go.AW Go.ChangeShapes Go.WideShapes Go.ChangeAt Go.RowKit
theorem own : ownKnob Tryz.prog.godebug = none := by kernel_rfl
theorem laidOut : laidOutB Tryz.prog = true := by kernel_rfl
theorem arg_text {k : Nat} {cs : List AV} (h : ArgC Tryz.prog (k + 1) 9 cs) : ∃ l : List UInt8, pkV Tryz.prog 9 cs = .sc (.string ⟨l.toArray⟩) ∧ l.length ≤ 140737488355328 := by
  obtain ⟨s, e, hs⟩ := arg_str Tryz.underlying9 h
  have : s.data.toList.length = s.size := by simp
  simp [reachBytes] at hs
  exact ⟨s.data.toList, by rw [e], by omega⟩
theorem arg_int1 {k : Nat} {c : AV} (h : ArgC Tryz.prog (k + 1) 3 [c]) : ∃ n, c = .sc (.int .i64 n) := by
  obtain ⟨n, e, _⟩ := arg_int Tryz.underlying3 h
  exact ⟨n, by simpa [pkV, AW.isAgg, Tryz.underlying3] using e⟩
theorem arg_bool1 {k : Nat} {c : AV} (h : ArgC Tryz.prog (k + 1) 4 [c]) : ∃ n, c = .sc (.bool n) := by
  obtain ⟨n, e⟩ := arg_bool Tryz.underlying4 h
  exact ⟨n, by simpa [pkV, AW.isAgg, Tryz.underlying4] using e⟩
theorem arg_text1 {k : Nat} {c : AV} (h : ArgC Tryz.prog (k + 1) 9 [c]) : ∃ l : List UInt8, c = .sc (.string ⟨l.toArray⟩) ∧ l.length ≤ 140737488355328 := by
  obtain ⟨n, e, hl⟩ := arg_text h
  exact ⟨n, by simpa [pkV, AW.isAgg, Tryz.underlying9] using e, hl⟩
theorem arg_ty {k : Nat} {cs : List AV} (h : ArgC Tryz.prog (k + 2) 49 cs) : ∃ t : Ty, cs = [.sc (.int .i64 t.kind), .sc (.int .i64 t.index), .sc (.int .i64 t.dims), .sc (.bool t.ref)] := by
  simp [-Bool.exists_bool, ArgC, Tryz.underlying49, Tryz.underlying4, Tryz.underlying3] at h
  obtain ⟨hlen, ⟨a, q1, _⟩, ⟨b, q2, _⟩, ⟨c, q3, _⟩, ⟨d, q4⟩⟩ := h
  match cs, hlen with
  | [x, y, z, w], _ =>
    simp at q1 q2 q3 q4
    subst q1 q2 q3 q4
    exact ⟨⟨a, b, c, d⟩, rfl⟩
theorem arg_tyV {k : Nat} {cs : List AV} (h : ArgC Tryz.prog (k + 2) 49 cs) : ∃ t : Ty, pkV Tryz.prog 49 cs = tyV t := by
  obtain ⟨t, rfl⟩ := arg_ty h
  exact ⟨t, by simp [pkV, AW.isAgg, tyV, Tryz.underlying49]⟩
theorem arg_ins {k : Nat} {cs : List AV} (h : ArgC Tryz.prog (k + 3) 110 cs) : ∃ x : { x : Ins // Im.InI x }, pkV Tryz.prog 110 cs = insV x.1 := by
  have hlen : cs.length = 6 := by
    simp only [ArgC, Tryz.underlying110] at h
    exact h.1
  match cs, hlen with
  | [x, y, z, w, u, v], _ =>
    simp [-Bool.exists_bool, ArgC, Tryz.underlying110, Tryz.underlying49, Tryz.underlying4, Tryz.underlying3, Tryz.underlying2] at h
    obtain ⟨⟨a, q1, _⟩, ⟨b, q2, w2⟩, ⟨c, q3, _⟩, ⟨d, q4, _⟩, ⟨e, q5, _⟩, ⟨f, q6⟩⟩ := h
    simp [Lit.wf, IntKind.min, IntKind.max, IntKind.signed, IntKind.bits] at w2
    subst q1 q2 q3 q4 q5 q6
    exact ⟨⟨⟨a, b, ⟨c, d, e, f⟩⟩, by unfold Im.InI; simp; omega⟩, by simp [pkV, AW.isAgg, insV, Tryz.underlying110]⟩
theorem arg_clause {k : Nat} {cs : List AV} (h : ArgC Tryz.prog (k + 3) 158 cs) : ∃ c : Rg.Cl, pkV Tryz.prog 158 cs = Rg.clV c := by
  have hlen : cs.length = 10 := by
    simp only [ArgC, Tryz.underlying158] at h
    exact h.1
  match cs, hlen with
  | [x1, x2, x3, x4, x5, x6, x7, x8, x9, x10], _ =>
    simp [-Bool.exists_bool, ArgC, Tryz.underlying158, Tryz.underlying49, Tryz.underlying4, Tryz.underlying3] at h
    obtain ⟨⟨a1, q1, _⟩, ⟨a2, q2, _⟩, ⟨a3, q3, _⟩, ⟨a4, q4, _⟩, ⟨a5, q5, _⟩, ⟨a6, q6, _⟩, ⟨a7, q7, _⟩, ⟨a8, q8, _⟩, ⟨a9, q9, _⟩, ⟨a10, q10⟩⟩ := h
    subst q1 q2 q3 q4 q5 q6 q7 q8 q9 q10
    exact ⟨⟨a1, a2, a3, a4, a5, a6, a7, a8, a9, a10⟩, by simp [pkV, AW.isAgg, Rg.clV_def, Tryz.underlying158]⟩
theorem arg_td {k : Nat} {cs : List AV} (h : ArgC Tryz.prog (k + 3) 46 cs) : ∃ t : { t : Im.TD // t.faces.length ≤ 140737488355328 ∧ t.name.length ≤ 140737488355328 }, pkV Tryz.prog 46 cs = Im.tdV t.1 := by
  have hlen : cs.length = 4 := by
    rw [ArgC] at h
    simp only [Tryz.underlying46] at h
    exact h.1
  match cs, hlen with
  | [x1, x2, x3, x4], _ =>
    rw [ArgC] at h
    simp only [Tryz.underlying46] at h
    have h1 := h.2
    simp at h1
    obtain ⟨h1, h2, h3, h4⟩ := h1
    obtain ⟨n, rfl, hn⟩ := arg_text1 h1
    obtain ⟨a, rfl⟩ := arg_int1 h2
    obtain ⟨b, rfl⟩ := arg_int1 h3
    obtain ⟨l, nl, e, _, hl⟩ := arg_list Im.iV Tryz.underlying44 (fun c hc => (by obtain ⟨n, e, _⟩ := arg_int Tryz.underlying3 hc; exact ⟨n, e⟩)) h4
    simp [pkV, AW.isAgg, Tryz.underlying44] at e
    simp [reachBytes] at hl
    subst e
    exact ⟨⟨⟨n, a, b, l, nl⟩, (by simp; omega), hn⟩, by simp [pkV, AW.isAgg, Im.tdV_def, Tryz.underlying46]⟩
theorem arg_fd {k : Nat} {cs : List AV} (h : ArgC Tryz.prog (k + 3) 56 cs) : ∃ t : { t : Im.Fd // t.name.length ≤ 140737488355328 }, pkV Tryz.prog 56 cs = Im.fdV t.1 := by
  have hlen : cs.length = 7 := by
    rw [ArgC] at h
    simp only [Tryz.underlying56] at h
    exact h.1
  match cs, hlen with
  | [x1, x2, x3, x4, x5, x6, x7], _ =>
    rw [ArgC] at h
    simp only [Tryz.underlying56] at h
    have h1 := h.2
    simp at h1
    obtain ⟨h1, h2, h3, h4⟩ := h1
    obtain ⟨n, rfl, hn⟩ := arg_text1 h1
    obtain ⟨a, rfl⟩ := arg_int1 h2
    obtain ⟨t, e⟩ := arg_ty h3
    obtain ⟨b, rfl⟩ := arg_bool1 h4
    simp at e
    obtain ⟨rfl, rfl, rfl, rfl⟩ := e
    exact ⟨⟨⟨n, a, t, b⟩, hn⟩, by simp [pkV, AW.isAgg, Im.fdV_def, Tryz.underlying56]⟩
theorem arg_mt {k : Nat} {cs : List AV} (h : ArgC Tryz.prog (k + 5) 53 cs) : ∃ t : { t : Im.Mt // Im.MtL t ∧ ∀ x ∈ t.code, Im.InI x }, pkV Tryz.prog 53 cs = Im.mtV t.1 := by
  have hlen : cs.length = 12 := by
    rw [ArgC] at h
    simp only [Tryz.underlying53] at h
    exact h.1
  match cs, hlen with
  | [x1, x2, x3, x4, x5, x6, x7, x8, x9, x10, x11, x12], _ =>
    rw [ArgC] at h
    simp only [Tryz.underlying53] at h
    have h1 := h.2
    simp at h1
    obtain ⟨h1, h2, h3, h4, h5, h6, h7, h8, h9⟩ := h1
    obtain ⟨n, rfl, hn⟩ := arg_text1 h1
    obtain ⟨a, rfl⟩ := arg_int1 h2
    obtain ⟨b, rfl⟩ := arg_int1 h3
    obtain ⟨ps, pn, e4, _, l4⟩ := arg_list tyV Tryz.underlying47 (fun c hc => arg_tyV hc) h4
    obtain ⟨t, e5⟩ := arg_ty h5
    obtain ⟨ls, ln, e6, _, l6⟩ := arg_list tyV Tryz.underlying47 (fun c hc => arg_tyV hc) h6
    obtain ⟨mx, rfl⟩ := arg_int1 h7
    obtain ⟨cd, cn, e8, _, l8⟩ := arg_list (fun x : { x : Ins // Im.InI x } => insV x.1) Tryz.underlying50 (fun c hc => arg_ins hc) h8
    obtain ⟨cl, xn, e9, _, l9⟩ := arg_list Rg.clV Tryz.underlying51 (fun c hc => arg_clause hc) h9
    simp [pkV, AW.isAgg, Tryz.underlying47] at e4 e6
    simp [pkV, AW.isAgg, Tryz.underlying50] at e8
    simp [pkV, AW.isAgg, Tryz.underlying51] at e9
    simp at e5
    simp [reachBytes] at l4 l6 l8 l9
    obtain ⟨rfl, rfl, rfl, rfl⟩ := e5
    subst e4 e6 e8 e9
    refine ⟨⟨⟨n, a, b, ps, pn, t, ls, ln, mx, cd.map (·.1), cn, cl, xn⟩, ⟨hn, by simp; omega, by simp; omega, by simp; omega, by simp; omega⟩, fun x hx => ?_⟩, by simp [pkV, AW.isAgg, Im.mtV_def, Tryz.underlying53, Function.comp_def]⟩
    obtain ⟨y, _, rfl⟩ := List.mem_map.1 hx
    exact y.2
theorem arg_im {k : Nat} {cs : List AV} (h : ArgC Tryz.prog (k + 7) 26 cs) : ∃ g : Im.Img, pkV Tryz.prog 26 cs = Im.imV g ∧ Im.ImL g ∧ ∀ m ∈ g.ms, ∀ x ∈ m.code, Im.InI x := by
  have hlen : cs.length = 4 := by
    rw [ArgC] at h
    simp only [Tryz.underlying26] at h
    exact h.1
  match cs, hlen with
  | [x1, x2, x3, x4], _ =>
    rw [ArgC] at h
    simp only [Tryz.underlying26] at h
    have h1 := h.2
    simp at h1
    obtain ⟨h1, h2, h3, h4⟩ := h1
    obtain ⟨ts, tn, e1, _, l1⟩ := arg_list (fun t : { t : Im.TD // t.faces.length ≤ 140737488355328 ∧ t.name.length ≤ 140737488355328 } => Im.tdV t.1) Tryz.underlying22 (fun c hc => arg_td hc) h1
    obtain ⟨fs, fn, e2, _, l2⟩ := arg_list (fun t : { t : Im.Fd // t.name.length ≤ 140737488355328 } => Im.fdV t.1) Tryz.underlying23 (fun c hc => arg_fd hc) h2
    obtain ⟨ms, mn, e3, _, l3⟩ := arg_list (fun t : { t : Im.Mt // Im.MtL t ∧ ∀ x ∈ t.code, Im.InI x } => Im.mtV t.1) Tryz.underlying24 (fun c hc => arg_mt hc) h3
    obtain ⟨n, rfl⟩ := arg_int1 h4
    simp [pkV, AW.isAgg, Tryz.underlying22] at e1
    simp [pkV, AW.isAgg, Tryz.underlying23] at e2
    simp [pkV, AW.isAgg, Tryz.underlying24] at e3
    simp [reachBytes] at l1 l2 l3
    subst e1 e2 e3
    refine ⟨⟨ts.map (·.1), tn, fs.map (·.1), fn, ms.map (·.1), mn, n⟩, by simp [pkV, AW.isAgg, Im.imV_def, Tryz.underlying26, Function.comp_def], ⟨by simp; omega, by simp; omega, by simp; omega, fun t ht => ?_, fun t ht => ?_, fun t ht => ?_⟩, fun t ht => ?_⟩
    all_goals
      obtain ⟨y, _, rfl⟩ := List.mem_map.1 ht
    · exact y.2
    · exact y.2
    · exact y.2.1
    · exact y.2.2
theorem imageFormed_reads (os : Os) {H : Type} (enc : TypeId × Value → H) : ∃ places, DataW.whole enc Tryz.prog ((World.holding Tryz.prog os ⟨#[], #[Value.agg #[.slice none 0 0, .slice none 0 0, .slice none 0 0, .int .i64 0]], []⟩).forCall (fun _ _ => 0) ⟨#[], #[Value.agg #[.slice none 0 0, .slice none 0 0, .slice none 0 0, .int .i64 0]], []⟩).memory Tryz.f3.params.toList Rows.imageFormedSpec.vars false #[Value.agg #[.slice none 0 0, .slice none 0 0, .slice none 0 0, .int .i64 0]].toList 8 = some ([.agg [.nil, .nil, .nil, .lit (.int .i64 0)]], [], places) :=
  ⟨[], by kernel_rfl⟩
theorem imageFormed_contract (H : Type) (enc : TypeId × Value → H) (W : World) (base : Nat) (args : Array Value) (ds gs : List (DataW H)) (before : List MemPlace)
    (hval : ∀ (j : Nat) t v, Tryz.f3.params[j]? = some t → args[j]? = some v → Value.okWide Tryz.prog W .any base t v)
    (hW : DataW.Whole enc Tryz.prog Tryz.f3.params.toList Rows.imageFormedSpec.vars false W args.toList ds gs before)
    (hwt : (DataW.weightsEach Tryz.prog (Tryz.f3.params.toList ++ Rows.imageFormedSpec.plain.varTypes Tryz.prog) (ds ++ gs)).all (· ≤ reachBytes) = true) :
    Calls Tryz.prog 3 args W fun e W' => ∃ v, e = .returned v ∧ Rows.imageFormedSpec.post enc Tryz.prog Tryz.f3 false true false false W args v W' := by
  refine law_contract (P := Tryz.prog) (fn := Tryz.f3) (k := 7) (ts := [26]) (tb := 4) (s := Rows.imageFormedSpec) laidOut (by kernel_rfl) (by kernel_rfl) (by kernel_rfl) rfl Tryz.underlying4 rfl (fun ds h => ?_) (fun vs h => ?_) hval hW hwt
  · match ds, h with
    | [d1], _ => rfl
  · obtain ⟨c1, r, rfl, h1, h⟩ := h.inv
    obtain rfl := h.inv0
    obtain ⟨g, e1, hL, hI⟩ := arg_im h1
    rw [e1]
    exact Im.imageFormed_ok g hL hI
theorem imageFormed_lifted (os : Os) (started : os.Started) (H : Type) (enc : TypeId × Value → H) (F : Stop.Interp) :
    ReturnsInHanded {} Tryz.checked os 3 .any ((OpenSpec.ofChange Rows.imageFormedSpec).preRow enc Tryz.prog Tryz.f3 Rows.imageFormedRow.domain false Rows.imageFormedRow.laid)
      (((OpenSpec.ofChange Rows.imageFormedSpec).at F).post enc Tryz.prog Tryz.f3 false true false false) := by
  obtain ⟨places, hx⟩ := imageFormed_reads os enc
  refine returnsInHanded_of_row (C := Tryz.checked) (s := OpenSpec.ofChange Rows.imageFormedSpec) own started (by kernel_rfl) Tryz.func3
    (witness_row_at (enc := enc) (C := Tryz.checked) false (World.holding Tryz.prog os ⟨#[], #[Value.agg #[.slice none 0 0, .slice none 0 0, .slice none 0 0, .int .i64 0]], []⟩) #[Value.agg #[.slice none 0 0, .slice none 0 0, .slice none 0 0, .int .i64 0]] rfl (by kernel_rfl) (by kernel_rfl) (by kernel_rfl)
      (OpenSpec.preRow_of_cond 8 hx (by kernel_rfl) (fun k hk => by cases hk) (by kernel_rfl) (show laidMetH Tryz.prog [] _ from ⟨[], rfl, List.nodup_nil, fun _ _ h => by cases h⟩))) ?_
  intro W base args ds gs before hval hW _ _ hwt _ _ _
  exact imageFormed_contract H enc W base args ds gs before hval hW hwt
theorem imageFormed_holds : Rows.ImageFormedSaid :=
  OpenClaim.holds_of_cond 3 Tryz.f3 rfl rfl rfl rfl rfl rfl rfl ⟨rfl, rfl, rfl, rfl, rfl⟩ rfl rfl rfl rfl rfl Fm.named Tryz.func3 Fm.joined
    (of_decide_eq_true (by kernel_rfl)) (by unfold Func.isWrapper; first | (rw [if_pos (by decide +kernel)]; kernel_rfl) | (rw [if_neg (by decide +kernel)]; exact ⟨rfl, rfl⟩))
    (fun os started H enc _ F => by rw [OpenClaim.pre_eq_preRow]; exact imageFormed_lifted os started H enc F)
end Go.Proofs.YtknalmoackcpbaaGreat
