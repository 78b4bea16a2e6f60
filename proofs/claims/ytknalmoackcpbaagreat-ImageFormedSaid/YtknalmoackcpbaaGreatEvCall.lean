/- A layer of abstract values over the model's machine: own work for this claim, part EvCall. -/
import Derived.Test.YtknalmoackcpbaaGreatEvHeap
set_option linter.unusedSimpArgs false
set_option linter.unusedVariables false
namespace Go.AW.Ev
open Go Go.RowKit
variable {P : Program} {n : Nat} {ds : List Deferred} {Q : AQ}
theorem bif_ok {b : Bool} {x : Res} {w : Nat} {v : EV} {H : Hp} (h : (bif b then x else .fail w) = .ok v H) : b = true ∧ x = .ok v H := by
  cases b with
  | false => cases h
  | true => exact ⟨rfl, h⟩
theorem appE_c {e se be : Nat} {src : Option (Nat × List EV)} {s v : EV} {H H' : Hp} (h : appE e se be src s H = .ok v H') : H.c ≤ H'.c := by
  have new : ∀ {H1 : Hp} {b : Blk} {x : EV}, Res.ok x (H1.new b) = .ok v H' → H'.c = H1.c + 1 := by
    intro H1 b x h
    simp only [Res.ok.injEq] at h
    rw [← h.2]; rfl
  unfold appE at h
  cases src with
  | none => cases h
  | some p =>
    obtain ⟨m, xs⟩ := p
    simp only at h
    cases s <;> (try simp only at h) <;> first | (cases h; done) | skip
    case nilS =>
      cases hn : Nat.beq m 0 with
      | true =>
        rw [hn] at h
        simp only [cond_true, Res.ok.injEq] at h
        rw [← h.2]; exact Nat.le_refl _
      | false =>
        rw [hn] at h
        obtain ⟨_, h⟩ := bif_ok h
        rw [new h]; omega
    case sl i off len cap =>
      split at h
      · split at h
        · cases h
        · obtain ⟨_, h⟩ := bif_ok h
          cases cap with
          | rest d =>
            obtain ⟨_, h⟩ := bif_ok h
            rw [new h]
            exact Nat.le_succ _
          | kn c =>
            simp only at h
            cases hl : Nat.ble (Nat.add len m) c with
            | true =>
              rw [hl] at h
              simp only [cond_true] at h
              split at h
              · simp only [Res.ok.injEq] at h
                rw [← h.2]; exact Nat.le_refl _
              · cases h
            | false =>
              rw [hl] at h
              simp only [cond_false] at h
              rw [new h]; omega
      · cases h
    case lst e' es full =>
      cases full with
      | false => cases h
      | true =>
        obtain ⟨_, h⟩ := bif_ok h
        rw [new h]; omega
section
variable {d : Option Nat} {ty : TypeId} {pos : String} {af : Array Edge} {g : Option (Nat × Bool)}
theorem ok_callv {f : Operand} {args : Array Operand} {ats : Array TypeId} : EOK P n ds Q ⟨d, .call ⟨.value f, args, ats⟩, ty, pos, af, g⟩ (compOp P (.call ⟨.value f, args, ats⟩)) := by
  intro call hcall ρ F s σ0 σ H v H' hx hR he
  have hf : XR ρ F s f := hx f (by simp [Op.operands, Go.Call.operands])
  have ha : VL ρ (opds args.toList F) (args.toList.map (ev s)) := VL.opds fun x hm => hx x (by simp [Op.operands, Go.Call.operands]; exact .inr (by simpa using hm))
  simp only [eCall] at he
  split at he
  · rename_i f' first cap hfv
    obtain ⟨c1, c2⟩ := hcall _ _ _ _ _ he
    refine ⟨c1, fun K h hd => SOp.step ⟨okD_eq hd, ?_⟩⟩
    show aCall P (ev s f) (args.toList.map (ev s)) σ _ _
    unfold XR at hf
    rw [hfv] at hf
    generalize ev s f = fa at hf
    have fin : ∀ r σ', (∃ ρ', Ren.le ρ ρ' ∧ VR ρ' v r ∧ R P ρ' σ0 H' σ') → sK ⟨d, .call ⟨.value f, args, ats⟩, ty, pos, af, g⟩ s K (s.put d r) σ' := by
      rintro r σ' ⟨ρ', g1, g2, g3⟩
      exact ⟨r, rfl, h ρ' r σ' g1 g2 g3⟩
    cases hf with
    | fn0 _ =>
      simp only [List.nil_append, List.append_nil] at c2
      exact aCall.of (c2 ρ σ0 σ _ hR ha) fin (fun _ _ h => h.elim)
    | fn la hla lb hlb =>
      rename_i as bs
      have := c2 ρ σ0 σ (as ++ args.toList.map (ev s) ++ bs) hR (((VL.of la hla).app ha).app (VL.of lb hlb))
      exact ⟨_, _, this, fin, fun _ _ h => h.elim⟩
  · cases he
theorem toList2 {α : Type} {a : Array α} {x y : α} (h : a.toList = [x, y]) : a = #[x, y] := by
  apply Array.ext'; simpa using h
theorem aop_bi {b : Builtin} {args : Array Operand} {ats : Array TypeId} {s : AW.Fr} {σ : AS} {K Pn : AV → AS → Prop} (h : aBuiltin P σ b ats.toList (args.toList.map (ev s)) K) : AW.aop P s σ K Pn (.call ⟨.builtin b, args, ats⟩) := h
theorem ok_append {t tx : TypeId} {a b : Operand} {args : Array Operand} {ats : Array TypeId} (h1 : args.toList = [a, b]) (h2 : ats.toList = [t, tx]) {e : TypeId} (he : sliceT P t = some e) (hc0 : P.cellsOf e ≠ 0) (hz1 : (zeroAV P e).laid = true) (hz2 : (zeroAV P e).cells.length = P.cellsOf e)
    {src : Fr → Hp → Option (Nat × List EV)} (hsrc : ∀ (ρ : Ren) (F : Fr) (s : AW.Fr) (σ : AS) (H : Hp) (G : Gh) (w : World) (vx : Value), Inv P G σ w → RB P ρ H σ → XR ρ F s b → Rep P G (ev s b) vx → ∀ m xs, src F H = some (m, xs) → Took P ρ G w e tx vx m xs) :
    EOK P n ds Q ⟨d, .call ⟨.builtin .append, args, ats⟩, ty, pos, af, g⟩ (.eff fun _ F H => appE e (P.cellsOf e) (P.bytesOf e) (src F H) ((opd a).get F) H) := by
  obtain rfl := toList2 h1
  obtain rfl := toList2 h2
  refine eff_of fun call ρ F s σ0 σ H v' H' hx hR hev => ⟨appE_c hev, fun K Pn h G r w hi hr => ?_⟩
  have ha : XR ρ F s a := hx a (by simp [Op.operands, Go.Call.operands])
  have hb : XR ρ F s b := hx b (by simp [Op.operands, Go.Call.operands])
  show Out P G _ _ ((do let d ← resolve r ⟨.builtin .append, #[a, b], #[t, tx]⟩ ty; invoke d.target d.args : Sem Next).run P w)
  simp only [resolve, Sem.run_bind, Sem.run_pure, Result.andThen_ok, invoke]
  have e1 : (#[a, b] : Array Operand).map r = #[r a, r b] := by simp
  rw [e1]
  exact (app_ok hi hR he hc0 hz1 hz2 ha (hr a) (fun m xs hs => hsrc ρ F s σ H G w (r b) hi hR.rb hb (hr b) m xs hs) hev).2 h
theorem copyE_c {e se : Nat} {src : Option (Nat × List EV)} {s v : EV} {H H' : Hp} (h : copyE e se src s H = .ok v H') : H.c ≤ H'.c := by
  unfold copyE at h
  split at h
  · split at h
    · split at h
      · split at h
        · simp only [Res.ok.injEq] at h
          rw [← h.2]; exact Nat.le_refl _
        · cases h
      · cases h
    · cases h
  · cases h
theorem ok_bi {b : Builtin} {args : Array Operand} {ats : Array TypeId} : EOK P n ds Q ⟨d, .call ⟨.builtin b, args, ats⟩, ty, pos, af, g⟩ (compOp P (.call ⟨.builtin b, args, ats⟩)) := by
  show EOK P n ds Q _ (compCall P ⟨.builtin b, args, ats⟩)
  simp only [compCall]
  split
  · rename_i x t h1 h2
    have hop : x ∈ (Op.call ⟨.builtin .len, args, ats⟩).operands := by
      simp only [Op.operands, Go.Call.operands]
      have : x ∈ args.toList := by rw [h1]; simp
      simpa using this
    split
    · rename_i e hu
      exact fun ρ F s σ hx h0 K Pn h => XO.aop (aop_bi (by rw [h1, h2]; exact lenS_ok hu (hx x hop) h0 h))
    · rename_i hu
      exact fun ρ F s σ hx h0 K Pn h => XO.aop (aop_bi (by rw [h1, h2]; exact lenT_ok hu (hx x hop) h0 h))
    · rename_i m e hu
      exact fun ρ F s σ hx h0 K Pn h => XO.aop (aop_bi (by rw [h1, h2]; show aLen P σ t (ev s x) (fun v => K v σ); unfold aLen; rw [hu]; exact h _ (.int _ _)))
    · rename_i k v hu
      exact fun ρ F s σ H hx hb h0 K Pn h => XO.aop (aop_bi (by rw [h1, h2]; exact lenM_ok hu (hx x hop) hb h0 h))
    · trivial
  · rename_i a x t tx h1 h2
    split
    · rename_i e he
      cases hc : (!Nat.beq (P.cellsOf e) 0 && (zeroV P e).laid && lenB (zeroV P e).cells (P.cellsOf e)) with
      | false => trivial
      | true =>
        simp only [Bool.and_eq_true, Bool.not_eq_true', beq_dec, decide_eq_false_iff_not] at hc
        obtain ⟨⟨c1, c2⟩, c3⟩ := hc
        obtain ⟨z1, z2⟩ := zero_ok c2 c3
        simp only [cond_true]
        split
        · rename_i e1 hu
          exact ok_append (src := fun F H => srcS e (P.cellsOf e) ((opd x).get F) H) h1 h2 he c1 z1 z2 fun ρ F s σ H G w vx hi hb hx hr m xs hs => took_s hi hb hu hx hr hs
        · rename_i hu
          cases hcu : u8T P e with
          | false => trivial
          | true => exact ok_append (src := fun F H => srcT ((opd x).get F)) h1 h2 he c1 z1 z2 fun ρ F s σ H G w vx hi hb hx hr m xs hs => took_t hi z1 z2 hu hcu hx hr hs
        · rename_i k0 hu
          cases hcb : Nat.ble (P.bytesOf e) 1000 with
          | false => trivial
          | true => exact ok_append (src := fun F H => srcI (zeroV P e).cells ((opd x).get F)) h1 h2 he c1 z1 z2 fun ρ F s σ H G w vx hi hb hx hr m xs hs => took_i hi c1 c2 z2 hu (Nat.le_of_ble_eq_true hcb) hx hr hs
        · trivial
    · trivial
  · rename_i a x t t2 h1 h2
    split
    · rename_i e he
      cases hc : Nat.beq (P.cellsOf e) 0 with
      | true => trivial
      | false =>
        rw [beq_dec] at hc
        simp only [decide_eq_false_iff_not] at hc
        have ha' : a ∈ args.toList := by rw [h1]; simp
        have hb' : x ∈ args.toList := by rw [h1]; simp
        refine eff_of fun call ρ F s σ0 σ H v' H' hx hR hev => ⟨copyE_c hev, fun K Pn h => XO.aop (aop_bi ?_)⟩
        rw [h1, h2]
        exact (copy_ok hR he hc (hx a (by simp only [Op.operands, Go.Call.operands]; simpa using ha')) (hx x (by simp only [Op.operands, Go.Call.operands]; simpa using hb')) hev).2 h
    · trivial
  · rename_i x y h1
    have ha' : x ∈ args.toList := by rw [h1]; simp
    have hb' : y ∈ args.toList := by rw [h1]; simp
    intro ρ F s σ hx h0 K Pn h
    have e1 : XR ρ F s x := hx x (by simp only [Op.operands, Go.Call.operands]; simpa using ha')
    have e2 : XR ρ F s y := hx y (by simp only [Op.operands, Go.Call.operands]; simpa using hb')
    refine XO.aop (aop_bi ?_)
    rw [h1]
    show aBuiltin P σ .min _ [ev s x, ev s y] K
    simp only [eMinMax] at h h0
    unfold XR at e1 e2
    generalize (opd x).get F = xv at e1 h h0
    generalize (opd y).get F = yv at e2 h h0
    generalize ev s x = ax at e1
    generalize ev s y = ay at e2
    cases e1 <;> first | exact absurd rfl h0 | skip
    cases e2 <;> first | exact absurd rfl h0 | skip
    rename_i k a k' b
    show K (.sc (.int k (if b < a then b else a))) σ
    have := h _ (.int _ _)
    simp only [ltI_eq] at this
    by_cases hlt : b < a
    · simpa [hlt] using this
    · simpa [hlt] using this
  · rename_i x y h1
    have ha' : x ∈ args.toList := by rw [h1]; simp
    have hb' : y ∈ args.toList := by rw [h1]; simp
    intro ρ F s σ hx h0 K Pn h
    have e1 : XR ρ F s x := hx x (by simp only [Op.operands, Go.Call.operands]; simpa using ha')
    have e2 : XR ρ F s y := hx y (by simp only [Op.operands, Go.Call.operands]; simpa using hb')
    refine XO.aop (aop_bi ?_)
    rw [h1]
    show aBuiltin P σ .max _ [ev s x, ev s y] K
    simp only [eMinMax] at h h0
    unfold XR at e1 e2
    generalize (opd x).get F = xv at e1 h h0
    generalize (opd y).get F = yv at e2 h h0
    generalize ev s x = ax at e1
    generalize ev s y = ay at e2
    cases e1 <;> first | exact absurd rfl h0 | skip
    cases e2 <;> first | exact absurd rfl h0 | skip
    rename_i k a k' b
    show K (.sc (.int k (if a < b then b else a))) σ
    have := h _ (.int _ _)
    simp only [ltI_eq] at this
    by_cases hlt : a < b
    · simpa [hlt] using this
    · simpa [hlt] using this
  · trivial
theorem op_ok (o : Oper) : EOK P n ds Q o (compOp P o.op) := by
  obtain ⟨d, op, ty, pos, af, g⟩ := o
  cases op <;> first | exact trivial | skip
  case move => exact ok_move
  case assign => exact ok_assign
  case pick => exact ok_pick
  case alloc => exact ok_alloc
  case box => exact ok_box
  case build => exact ok_build
  case buildSlice => exact ok_buildSlice
  case load => exact ok_load
  case store => exact ok_store
  case nilCheck => exact ok_nilCheck
  case binOp => exact ok_binOp
  case unOp => exact ok_unOp
  case convert => exact ok_convert
  case makeInterface => exact ok_makeInterface
  case makeFunc => exact ok_makeFunc
  case makeMap => exact ok_makeMap
  case lookup => exact ok_lookup
  case mapUpdate => exact ok_mapUpdate
  case range => exact ok_range
  case next => exact ok_next
  case makeSlice => exact ok_makeSlice
  case slice => exact ok_slice
  case fieldAddr => exact ok_fieldAddr
  case field => exact ok_field
  case indexAddr => exact ok_indexAddr
  case index => exact ok_index
  case extract => exact ok_extract
  case typeAssert => exact ok_typeAssert
  case call c =>
    obtain ⟨callee, args, ats⟩ := c
    cases callee with
    | value f => exact ok_callv
    | builtin b => exact ok_bi
    | invoke r m => exact trivial
end
end Go.AW.Ev

set_option linter.unusedSimpArgs false
set_option linter.unusedVariables false
namespace Go.AW.Ev
open Go Go.RowKit
variable {P : Program} {n : Nat} {ds : List Deferred} {Q : AQ}
def EStepE (e : EO) (call : Call) (F : Fr) (V H : Hp) (v : EV) (H' : Hp) : Prop :=
  match e with
  | .pur f => f F = v ∧ v ≠ .any ∧ H' = H
  | .val f => f F V = v ∧ v ≠ .any ∧ H' = H
  | .new f => ∃ b mk, f F = some (b, mk) ∧ H.c < 32768 ∧ v = mk H.c ∧ H' = H.new b
  | .eff f => f call F H = .ok v H'
  | .bad _ => False
def EStep (P : Program) (call : Call) (o : Oper) (F : Fr) (V H : Hp) (v : EV) (H' : Hp) : Prop := EStepE (compOp P o.op) call F V H v H'
def GRun (ops : Array Oper) (o : Oper) (F : Fr) : Option Bool :=
  match o.guard with
  | none => some true
  | some (j, want) => match (gd ops j).get F with
    | .bool b => some (eqBool b want)
    | .sc (.tuple _) => some false
    | _ => none
theorem forceI_eq {α : Type} (n : Int) (r : α) : forceI n r = r := by
  cases n <;> simp only [forceI] <;> (cases Nat.beq _ _ <;> rfl)
theorem force_eq (v : EV) (r : CR) : force v r = r := by
  cases v <;> simp only [force] <;> first | rfl | exact forceI_eq _ _ | (cases Nat.beq _ _ <;> rfl) | (rename_i b; cases b <;> rfl)
theorem step_inv {e : EO} {w0 : Nat → Nat} {call : Call} {F : Fr} {V H : Hp} {k : EV → Hp → CR} {r : CR} (h : e.step w0 call F V H k = r) (hr : ∀ w, r ≠ .fail w) :
    ∃ v H', r = k v H' ∧ EStepE e call F V H v H' := by
  cases e with
  | pur f =>
    simp only [EO.step] at h
    split at h
    · exact absurd h.symm (hr _)
    · rename_i hv
      rw [force_eq] at h
      exact ⟨f F, H, h.symm, rfl, hv, rfl⟩
  | val f =>
    simp only [EO.step] at h
    split at h
    · exact absurd h.symm (hr _)
    · rename_i hv
      rw [force_eq] at h
      exact ⟨f F V, H, h.symm, rfl, hv, rfl⟩
  | new f =>
    simp only [EO.step] at h
    split at h
    · rename_i b mk hf
      rw [blt_dec] at h
      by_cases hc : H.c < 32768
      · simp only [hc, decide_true, cond_true] at h
        exact ⟨mk H.c, H.new b, h.symm, b, mk, hf, hc, rfl, rfl⟩
      · simp only [hc, decide_false, cond_false] at h
        exact absurd h.symm (hr _)
    · exact absurd h.symm (hr _)
  | eff f =>
    simp only [EO.step] at h
    split at h
    · rename_i v H' hf
      rw [force_eq] at h
      exact ⟨v, H', h.symm, hf⟩
    · exact absurd h.symm (hr _)
  | bad w => exact absurd h.symm (hr _)
theorem oper_inv {fid rid : Nat} {ops : Array Oper} {o : Oper} {call : Call} {F : Fr} {V H : Hp} {k : Fr → Hp → EV → CR} {r : CR} (h : (compOper P fid rid n ops o).run call F V H k = r) (hr : ∀ w, r ≠ .fail w) :
    okD n o.dst = true ∧ ∃ b, GRun ops o F = some b ∧ (b = true → ∃ v H', EStep P call o F V H v H' ∧ r = k (setD o.dst v F) H' v) ∧ (b = false → r = k (setD o.dst skipE F) H skipE) := by
  unfold compOper at h
  simp only at h
  cases hd : okD n o.dst with
  | false => rw [hd] at h; exact absurd h.symm (hr _)
  | true =>
    rw [hd] at h
    simp only [cond_true] at h
    refine ⟨rfl, ?_⟩
    cases hg : o.guard with
    | none =>
      rw [hg] at h
      simp only at h
      obtain ⟨v, H', h1, h2⟩ := step_inv h hr
      exact ⟨true, by simp [GRun, hg], fun _ => ⟨v, H', h2, h1⟩, fun h => by cases h⟩
    | some q =>
      obtain ⟨j, want⟩ := q
      rw [hg] at h
      simp only at h
      split at h
      · rename_i b hb
        refine ⟨eqBool b want, by simp [GRun, hg, hb], fun e => ?_, fun e => ?_⟩
        · rw [e] at h
          simp only [cond_true] at h
          obtain ⟨v, H', h1, h2⟩ := step_inv h hr
          exact ⟨v, H', h2, h1⟩
        · rw [e] at h
          exact h.symm
      · rename_i vs hb
        exact ⟨false, by simp [GRun, hg, hb], (fun e => by cases e), fun _ => h.symm⟩
      · exact absurd h.symm (hr _)
theorem sop_mono {o : Oper} {s : AW.Fr} {σ : AS} {K K' : AW.Fr → AS → Prop} (h : SOp P n ds Q o s σ K) (hk : ∀ s' σ', K s' σ' → K' s' σ') : SOp P n ds Q o s σ K' :=
  fun G0 G a w hle hs next hn => h G0 G a w hle hs next fun G' s' σ' a' w' h1 h2 h3 => hn G' s' σ' a' w' h1 h2 (hk _ _ h3)
theorem eStore_c {m : Nat} {x v r : EV} {H H' : Hp} (h : eStore m x v H = .ok r H') : H.c ≤ H'.c := by
  unfold eStore at h
  split at h
  · split at h
    · obtain ⟨_, h⟩ := bif_ok h
      split at h
      · simp only [Res.ok.injEq] at h
        rw [← h.2]; exact Nat.le_refl _
      · cases h
    · cases h
  · cases h
theorem convBB_c {e : TypeId} {se : Nat} {x r : EV} {H H' : Hp} (h : convBB e se x H = .ok r H') : H.c ≤ H'.c := by
  unfold convBB at h
  split at h
  · split at h
    · obtain ⟨_, h⟩ := bif_ok h
      simp only [Res.ok.injEq] at h
      rw [← h.2]; exact Nat.le_refl _
    · cases h
  · cases h
theorem eMapUpdate_c {ki : Bool} {x k v r : EV} {H H' : Hp} (h : eMapUpdate ki x k v H = .ok r H') : H.c ≤ H'.c := by
  unfold eMapUpdate at h
  split at h
  · split at h
    · obtain ⟨_, h⟩ := bif_ok h
      split at h
      · simp only [Res.ok.injEq] at h
        rw [← h.2]; exact Nat.le_refl _
      · cases h
    · cases h
  · cases h
theorem eNextS_c {x r : EV} {H H' : Hp} (h : eNextS x H = .ok r H') : H.c ≤ H'.c := by
  unfold eNextS at h
  split at h
  · split at h
    · rename_i b pos _
      cases hb : Nat.blt pos b.size with
      | true =>
        rw [hb] at h
        simp only [cond_true, Res.ok.injEq] at h
        rw [← h.2]; exact Nat.le_refl _
      | false =>
        rw [hb] at h
        simp only [cond_false, Res.ok.injEq] at h
        rw [← h.2]; exact Nat.le_refl _
    · cases h
  · cases h
def EffC (P : Program) : EO → Prop
  | .eff f => ∀ call, CallOK P call → ∀ F H v H', f call F H = .ok v H' → H.c ≤ H'.c
  | _ => True
theorem op_c (op : Op) : EffC P (compOp P op) := by
  cases op <;> first | exact trivial | skip
  case alloc e => show EffC P (bif _ then _ else _); cases (zeroV P e).laid <;> exact trivial
  case build t ps => show EffC P (bif _ then _ else _); cases (buildT P t && (zeroV P t).laid) <;> exact trivial
  case buildSlice t m ps =>
    simp only [compOp]
    split
    · cases (Nat.beq (P.cellsOf _) 0 || !(zeroV P _).laid || !lenB (zeroV P _).cells (P.cellsOf _)) <;> exact trivial
    · trivial
  case store t a v => exact fun call _ F H v H' h => eStore_c h
  case convert src dst x =>
    show EffC P (cConv P src dst (opd x))
    unfold cConv
    split
    · cases u8T P _ <;> exact trivial
    · cases u8T P _ <;> exact trivial
    · rename_i e e2 hs hd
      cases (Nat.beq src dst && u8T P e) with
      | false => trivial
      | true => exact fun call _ F H v H' h => convBB_c h
    · trivial
    · trivial
    · trivial
  case makeInterface t x => show EffC P (bif _ then _ else _); cases P.concrete t <;> exact trivial
  case makeFunc f a b => simp only [compOp]; cases f <;> exact trivial
  case makeMap t r => cases r <;> exact trivial
  case lookup t x i ok =>
    simp only [compOp]
    split
    · cases (keyT P _ && (zeroV P _).laid) <;> exact trivial
    · trivial
  case mapUpdate t x i v =>
    simp only [compOp]
    split
    · cases keyT P _ with
      | false => trivial
      | true => exact fun call _ F H v H' h => eMapUpdate_c h
    · trivial
  case range t x => show EffC P (bif _ then _ else _); cases isStr P t <;> exact trivial
  case next it str =>
    cases str with
    | false => trivial
    | true => exact fun call _ F H v H' h => eNextS_c h
  case makeSlice t l c =>
    simp only [compOp]
    split
    · cases (Nat.beq (P.cellsOf _) 0 || !(zeroV P _).laid || !lenB (zeroV P _).cells (P.cellsOf _)) <;> exact trivial
    · trivial
  case slice t x lo hi mx =>
    simp only [compOp]
    split
    · trivial
    · split
      · trivial
      · cases Nat.beq (P.cellsOf _) 0 <;> exact trivial
      · trivial
  case fieldAddr t x f => simp only [compOp]; split <;> exact trivial
  case indexAddr t x i =>
    simp only [compOp]
    split
    · cases Nat.beq (P.cellsOf _) 0 <;> exact trivial
    · cases Nat.beq (P.cellsOf _) 0 <;> exact trivial
    · trivial
  case index t x i => simp only [compOp]; split <;> exact trivial
  case typeAssert x t u ok => show EffC P (bif _ then _ else _); cases (ok && (zeroV P u).laid && noIface P u) <;> exact trivial
  case call c =>
    obtain ⟨callee, args, ats⟩ := c
    cases callee with
    | invoke r m => exact trivial
    | value f =>
      intro call hcall F H v H' h
      simp only [eCall] at h
      split at h
      · exact (hcall _ _ _ _ _ h).1
      · cases h
    | builtin b =>
      show EffC P (compCall P ⟨.builtin b, args, ats⟩)
      simp only [compCall]
      split
      · split <;> exact trivial
      · split
        · rename_i e he
          cases (!Nat.beq (P.cellsOf e) 0 && (zeroV P e).laid && lenB (zeroV P e).cells (P.cellsOf e)) with
          | false => trivial
          | true =>
            simp only [cond_true]
            split
            · exact fun call _ F H v H' h => appE_c h
            · cases u8T P e with
              | false => trivial
              | true => exact fun call _ F H v H' h => appE_c h
            · cases Nat.ble (P.bytesOf e) 1000 with
              | false => trivial
              | true => exact fun call _ F H v H' h => appE_c h
            · trivial
        · trivial
      · split
        · rename_i e he
          cases Nat.beq (P.cellsOf e) 0 with
          | true => trivial
          | false => exact fun call _ F H v H' h => copyE_c h
        · trivial
      · trivial
      · trivial
      · trivial
theorem estep_c {call : Call} (hcall : CallOK P call) {o : Oper} {F : Fr} {V H : Hp} {v : EV} {H' : Hp} (h : EStep P call o F V H v H') : H.c ≤ H'.c := by
  have hc := op_c (P := P) o.op
  unfold EStep at h
  generalize compOp P o.op = e at h hc
  cases e with
  | pur f => rw [h.2.2]; exact Nat.le_refl _
  | val f => rw [h.2.2]; exact Nat.le_refl _
  | new f => obtain ⟨b, mk, _, _, _, rfl⟩ := h; exact Nat.le_succ _
  | eff f => exact hc call hcall F H v H' h
  | bad w => exact h.elim
theorem estep_ok {call : Call} (hcall : CallOK P call) {o : Oper} {F : Fr} {H : Hp} {v : EV} {H' : Hp} (h : EStep P call o F H H v H') {ρ : Ren} {σ0 : AS} {s : AW.Fr} {σ : AS} (hF : ∀ x ∈ o.op.operands, XR ρ F s x) (hR : R P ρ σ0 H σ) (hd : okD n o.dst = true) :
    H.c ≤ H'.c ∧ SOp P n ds Q o s σ (fun s' σ' => ∃ ρ' av, Ren.le ρ ρ' ∧ s' = s.put o.dst av ∧ VR ρ' v av ∧ R P ρ' σ0 H' σ') := by
  have hok := op_ok (P := P) (n := n) (ds := ds) (Q := Q) o
  unfold EStep at h
  generalize compOp P o.op = e at h hok
  cases e with
  | pur f =>
    obtain ⟨rfl, h0, rfl⟩ := h
    refine ⟨Nat.le_refl _, sop_mono (XO.sop (fun Pn => hok ρ F s σ hF h0 (fun av σ' => VR ρ (f F) av ∧ R P ρ σ0 H' σ') Pn fun av hv => ⟨hv, hR⟩) hd) fun s' σ' ⟨av, e, h1, h2⟩ => ⟨ρ, av, .refl ρ, e, h1, h2⟩⟩
  | val f =>
    obtain ⟨rfl, h0, rfl⟩ := h
    refine ⟨Nat.le_refl _, sop_mono (XO.sop (fun Pn => hok ρ F s σ H' hF hR.rb h0 (fun av σ' => VR ρ (f F H') av ∧ R P ρ σ0 H' σ') Pn fun av hv => ⟨hv, hR⟩) hd) fun s' σ' ⟨av, e, h1, h2⟩ => ⟨ρ, av, .refl ρ, e, h1, h2⟩⟩
  | new f =>
    obtain ⟨b, mk, h1, h2, rfl, rfl⟩ := h
    obtain ⟨_, hk⟩ := hok ρ F s σ b mk H.c hF h1 (hR.fresh _ (Nat.le_refl _))
    refine ⟨Nat.le_succ _, sop_mono (XO.sop (K := fun av σ' => ∃ ρ', Ren.le ρ ρ' ∧ VR ρ' (mk H.c) av ∧ R P ρ' σ0 (H.new b) σ') (fun Pn => hk _ Pn fun x N ab av hx hb hv => ?_) hd) fun s' σ' ⟨av, e, ρ', g1, g2, g3⟩ => ⟨ρ', av, g1, e, g2, g3⟩⟩
    obtain ⟨g1, g2⟩ := hR.new h2 hx hb
    exact ⟨_, g1, hv, g2⟩
  | eff f =>
    obtain ⟨h1, h2⟩ := hok call hcall ρ F s σ0 σ H v H' hF hR h
    exact ⟨h1, sop_mono (h2 (fun av σ' => ∃ ρ', Ren.le ρ ρ' ∧ VR ρ' v av ∧ R P ρ' σ0 H' σ') (fun ρ' av σ' g1 g2 g3 => ⟨ρ', g1, g2, g3⟩) hd) fun s' σ' ⟨av, e, ρ', g1, g2, g3⟩ => ⟨ρ', av, g1, e, g2, g3⟩⟩
  | bad w => exact h.elim
/-! ## guards -/
theorem yield_of {G : Gh} {s : AW.Fr} {σ : AS} {a : Act} {w : World} (hs : Sim P G n ds s σ a w) {ops : Array Oper} {j : Nat} {v : Value} (hb : guardAV ops s j = .sc v) : yielded ops a.tmps j = (match v with | .bool b => some b | _ => none) := by
  unfold guardAV at hb
  split at hb
  · rename_i d hd
    have hr := hs.rep d
    rw [hb] at hr
    generalize hv : a.tmps.getD d undef = u at hr
    cases hr
    simp only [yielded, hd, Option.bind_some]
    rw [Array.getD_eq_getD_getElem?] at hv
    cases hx : a.tmps[d]? with
    | none => rw [hx] at hv; simp only [Option.getD_none] at hv; subst hv; rfl
    | some y => rw [hx] at hv; simp only [Option.getD_some] at hv; subst hv; cases y <;> rfl
  · cases hb
def GX (ρ : Ren) (ops : Array Oper) (F : Fr) (s : AW.Fr) (o : Oper) : Prop := ∀ j want d, o.guard = some (j, want) → (ops[j]?).bind (·.dst) = some d → VR ρ ((opd (.tmp d)).get F) (s d)
theorem wanted_of {ρ : Ren} {ops : Array Oper} {o : Oper} {F : Fr} {G : Gh} {s : AW.Fr} {σ : AS} {a : Act} {w : World} (hs : Sim P G n ds s σ a w) (hg : GX ρ ops F s o) {b : Bool} (h : GRun ops o F = some b) : Region.wanted o (yielded ops a.tmps) = b := by
  unfold GRun at h
  cases hgd : o.guard with
  | none =>
    rw [hgd] at h
    simp only [Option.some.injEq] at h
    subst h
    simp [Region.wanted, hgd]
  | some q =>
    obtain ⟨j, want⟩ := q
    rw [hgd] at h
    simp only at h
    unfold gd at h
    cases hd : (ops[j]?).bind (·.dst) with
    | none => rw [hd] at h; cases h
    | some d =>
      rw [hd] at h
      simp only at h
      have hv := hg j want d hgd hd
      have hga : guardAV ops s j = s d := by simp [guardAV, hd]
      split at h
      · rename_i bb hb
        simp only [Option.some.injEq] at h
        subst h
        rw [hb] at hv
        generalize hsd : s d = sd at hv
        cases hv
        have hy := yield_of hs (ops := ops) (j := j) (v := .bool bb) (by rw [hga, hsd])
        simp only [Region.wanted, hgd, hy]
        rw [eqBool_eq]
        cases bb <;> cases want <;> rfl
      · rename_i vs hb
        simp only [Option.some.injEq] at h
        subst h
        rw [hb] at hv
        generalize hsd : s d = sd at hv
        cases hv
        have hy := yield_of hs (ops := ops) (j := j) (v := .tuple vs) (by rw [hga, hsd])
        simp [Region.wanted, hgd, hy]
      · cases h
theorem skip_ok {ρ : Ren} : VR ρ skipE skipV := .sc _
theorem d_lt {d : Option Nat} (h : okD n d = true) : ∀ t, d = some t → t < n := by
  intro t e
  subst e
  simp only [okD, blt_dec, decide_eq_true_eq] at h
  exact h
/-! ## regions by the text -/
theorem runOps_ok (hn : n ≤ 512) {fid rid : Nat} {call : Call} (hcall : CallOK P call) {ops : Array Oper} : ∀ (l : List Oper) (F : Fr) (H : Hp) (r : CR), runOps P fid rid n call ops l F H = r → (∀ w, r ≠ .fail w) →
    ∃ F' H', r = .norm F' H' ∧ H.c ≤ H'.c ∧ ∀ (ρ : Ren) (σ0 : AS) (G0 G : Gh) (s : AW.Fr) (σ : AS) (a : Act) (w : World), FR ρ F s → R P ρ σ0 H σ → G0.Le G → Sim P G n ds s σ a w →
      (∀ ρ' s' σ', Ren.le ρ ρ' → FR ρ' F' s' → R P ρ' σ0 H' σ' → Q .normal s' σ') → wpList P ops (LQ P n ds Q G0) l a w := by
  intro l
  induction l with
  | nil =>
    intro F H r h hr
    exact ⟨F, H, h.symm, Nat.le_refl _, fun ρ σ0 G0 G s σ a w hF hR hle hs hq => ⟨G, s, σ, hle, hs, hq ρ s σ (.refl ρ) hF hR⟩⟩
  | cons o l ih =>
    intro F H r h hr
    obtain ⟨hd, b, hg, h1, h2⟩ := oper_inv (show (compOper P fid rid n ops o).run call F H H _ = r from h) hr
    have hd' := d_lt hd
    cases b with
    | true =>
      obtain ⟨v, H1, he, hk⟩ := h1 rfl
      obtain ⟨F', H', e1, e2, e3⟩ := ih _ _ r hk.symm hr
      have hc := estep_c hcall he
      refine ⟨F', H', e1, Nat.le_trans hc e2, fun ρ σ0 G0 G s σ a w hF hR hle hs hq => ?_⟩
      have hw := wanted_of hs (ρ := ρ) (F := F) (fun j want d _ _ => hF.op (.tmp d)) hg
      unfold wpList
      rw [if_pos hw]
      refine .inl ?_
      refine (estep_ok hcall he (fun x _ => hF.op x) hR hd).2 G0 G a w hle hs _ fun G' s' σ' a' w' k1 k2 k3 => ?_
      obtain ⟨ρ', av, g1, rfl, g2, g3⟩ := k3
      exact e3 ρ' σ0 G0 G' _ σ' a' w' ((hF.mono g1).put g2 o.dst fun t ht => Nat.lt_of_lt_of_le (hd' t ht) hn) g3 k1 k2 fun ρ'' s'' σ'' q1 q2 q3 => hq ρ'' s'' σ'' (g1.trans q1) q2 q3
    | false =>
      have hk := h2 rfl
      obtain ⟨F', H', e1, e2, e3⟩ := ih _ _ r hk.symm hr
      refine ⟨F', H', e1, e2, fun ρ σ0 G0 G s σ a w hF hR hle hs hq => ?_⟩
      have hw := wanted_of hs (ρ := ρ) (F := F) (fun j want d _ _ => hF.op (.tmp d)) hg
      unfold wpList
      rw [if_neg (by rw [hw]; simp)]
      exact e3 ρ σ0 G0 G _ σ _ w (hF.put skip_ok o.dst fun t ht => Nat.lt_of_lt_of_le (hd' t ht) hn) hR hle (hs.put (.refl G) hs.inv o.dst hd' (.sc _)) hq
end Go.AW.Ev

set_option linter.unusedSimpArgs false
set_option linter.unusedVariables false
namespace Go.AW.Ev
open Go Go.RowKit
variable {P : Program} {n : Nat} {ds : List Deferred} {Q : AQ}
/-! ## what the looks are worth -/
theorem eqCap_eq {a b : Cap} (h : eqCap a b = true) : a = b := by
  cases a <;> cases b <;> simp only [eqCap, beq_dec, decide_eq_true_eq] at h <;> first | (subst h; rfl) | cases h
theorem eqSc_eq {a b : Value} (h : eqSc a b = true) : a = b := by
  cases a with
  | pointer x => cases x <;> cases b <;> first | (cases h; done) | (rename_i y; cases y <;> first | rfl | cases h)
  | map x => cases x <;> cases b <;> first | (cases h; done) | (rename_i y; cases y <;> first | rfl | cases h)
  | nilFunc => cases b <;> first | rfl | cases h
  | nilIface => cases b <;> first | rfl | cases h
  | string x =>
    cases b with
    | string y =>
      simp only [eqSc, bs_iff, decide_eq_true_eq] at h
      rw [h]
    | _ => cases h
  | _ => cases b <;> cases h
theorem eqvL_eq {eq : EV → EV → Bool} (he : ∀ a b, eq a b = true → a = b) : ∀ {l l' : List EV}, eqvL eq l l' = true → l = l'
  | [], [], _ => rfl
  | [], _ :: _, h => by cases h
  | _ :: _, [], h => by cases h
  | a :: l, b :: l', h => by
    simp only [eqvL, Bool.and_eq_true] at h
    rw [he a b h.1, eqvL_eq he h.2]
theorem eqv_eq : ∀ (d : Nat) (a b : EV), eqv d a b = true → a = b := by
  intro d
  induction d with
  | zero => intro a b h; cases h
  | succ d ih =>
    intro a b h
    cases a <;> cases b <;> simp only [eqv, Bool.and_eq_true, beq_dec, decide_eq_true_eq] at h <;> first | (cases h; done) | skip
    · rw [eqK_eq h.1]; rw [eqI_eq, decide_eq_true_eq] at h; rw [h.2]
    · rw [eqBool_eq] at h; simp at h; rw [h]
    · rw [eqSc_eq h]
    · rfl
    · rw [h.1, h.2]
    · rw [h.1.1.1, h.1.1.2, h.1.2, eqCap_eq h.2]
    · rw [h.1.1, eqvL_eq ih h.1.2]; have := h.2; rw [eqBool_eq] at this; simp at this; rw [this]
    · rw [h]
    · rw [h.1.1, eqvL_eq ih h.1.2, eqvL_eq ih h.2]
    · rw [h.1, ih _ _ h.2]
    · rw [eqvL_eq ih h]
    · rw [eqvL_eq ih h]
def Ren.cut (ρ : Ren) (c : Nat) : Ren := fun i => if i < c then ρ i else none
theorem cut_le (ρ : Ren) (c : Nat) : Ren.le (ρ.cut c) ρ := by
  intro i p h
  unfold Ren.cut at h
  split at h
  · exact h
  · cases h
theorem cut_mono (ρ : Ren) {c d : Nat} (h : c ≤ d) : Ren.le (ρ.cut c) (ρ.cut d) := by
  intro i p hi
  unfold Ren.cut at hi ⊢
  split at hi
  · rw [if_pos (by omega)]; exact hi
  · cases hi
theorem cut_ren {ρ ρ' : Ren} (h : Ren.le ρ ρ') (c : Nat) : Ren.le (ρ.cut c) (ρ'.cut c) := by
  intro i p hi
  unfold Ren.cut at hi ⊢
  split at hi
  · rename_i hc; rw [if_pos hc]; exact h i p hi
  · cases hi
theorem cut_fresh {ρ : Ren} {c : Nat} (h : ∀ i, c ≤ i → ρ i = none) : ρ.cut c = ρ := by
  funext i
  unfold Ren.cut
  split
  · rfl
  · exact (h i (by omega)).symm
theorem cut_ext {ρ : Ren} {c : Nat} {q : Nat × Nat} (h : ρ c = some q) : ρ.cut (c + 1) = (ρ.cut c).ext c q := by
  funext i
  show (if i < c + 1 then ρ i else none) = (if i = c then some q else if i < c then ρ i else none)
  by_cases h1 : i = c
  · subst h1; simp [h]
  · by_cases h2 : i < c
    · rw [if_pos (by omega), if_neg h1, if_pos h2]
    · rw [if_neg (by omega), if_neg h1, if_neg h2]
theorem VR.cut {ρ : Ren} {c : Nat} : ∀ (f : Nat) {v : EV} {a : AV}, idsB c f v = true → VR ρ v a → VR (ρ.cut c) v a := by
  intro f
  induction f with
  | zero => intro v a h; cases h
  | succ f ih =>
    intro v a h hv
    have at' : ∀ {i : Nat} {p : Nat × Nat}, Nat.blt i c = true → ρ i = some p → (ρ.cut c) i = some p := by
      intro i p h1 h2
      rw [blt_dec, decide_eq_true_eq] at h1
      unfold Ren.cut
      rw [if_pos h1]; exact h2
    have all : ∀ {l : List EV} {as : List AV}, l.all (idsB c f) = true → (∀ i, i < l.length → VR ρ (l.getD i .any) (as.getD i .any)) → ∀ i, i < l.length → VR (ρ.cut c) (l.getD i .any) (as.getD i .any) := by
      intro l as h1 h2 i hi
      refine ih ?_ (h2 i hi)
      rw [List.all_eq_true] at h1
      exact h1 _ (by rw [List.getD_eq_getElem?_getD, List.getElem?_eq_getElem hi]; exact List.getElem_mem _)
    cases hv with
    | any a => exact .any a
    | int k n => exact .int k n
    | bool b => exact .bool b
    | sc v => exact .sc v
    | nilS => exact .nilS
    | ptr off hp => exact .ptr off (at' h hp)
    | slK off len k hp => exact .slK off len k (at' h hp)
    | slR off len d hp hl => exact .slR off len d (at' h hp) hl
    | lst full l hl => exact .lst full l (all h hl)
    | mp hp => exact .mp (at' h hp)
    | fn0 f => exact .fn0 f
    | fn la ha lb hb =>
      simp only [idsB, Bool.and_eq_true] at h
      exact .fn la (all h.1 ha) lb (all h.2 hb)
    | ifc t hv => exact .ifc t (ih h hv)
    | agg l hl => exact .agg l (all h hl)
    | tup l hl => exact .tup l (all h hl)
/-! ## what goes ahead -/
theorem bitB_eq (m j : Nat) : bitB m j = m.testBit j := by
  unfold bitB
  rw [beq_dec, Nat.testBit_eq_decide_div_mod_eq]
  congr 1
  rw [show Nat.shiftRight m j = m / 2 ^ j from Nat.shiftRight_eq_div_pow m j]
  rfl
theorem maskE_bit {acc : List Nat} {j : Nat} : ∀ {es : List Edge}, bitB (maskE acc es) j = true → ∃ e ∈ es, Region.binds .any e = true ∧ (e.on = j ∨ bitB (acc.getD e.on 0) j = true)
  | [], h => by
    rw [bitB_eq] at h
    simp [maskE] at h
  | e :: es, h => by
    simp only [maskE] at h
    cases hb : Region.binds .any e with
    | false =>
      rw [hb] at h
      obtain ⟨e', h1, h2⟩ := maskE_bit h
      exact ⟨e', by simp [h1], h2⟩
    | true =>
      rw [hb] at h
      simp only [cond_true] at h
      rw [bitB_eq, show Nat.lor (Nat.lor (Nat.shiftLeft 1 e.on) (acc.getD e.on 0)) (maskE acc es) = ((1 <<< e.on) ||| (acc.getD e.on 0)) ||| (maskE acc es) from rfl, Nat.testBit_or, Nat.testBit_or, Bool.or_eq_true, Bool.or_eq_true] at h
      rcases h with (h | h) | h
      · refine ⟨e, by simp, hb, .inl ?_⟩
        rw [Nat.one_shiftLeft, Nat.testBit_two_pow] at h
        simpa using h
      · exact ⟨e, by simp, hb, .inr (by rw [bitB_eq]; exact h)⟩
      · obtain ⟨e', h1, h2⟩ := maskE_bit (es := es) (acc := acc) (j := j) (by rw [bitB_eq]; exact h)
        exact ⟨e', by simp [h1], h2⟩
theorem befs_pre : ∀ (l : List Oper) (acc : List Nat), ∃ r, befs l acc = acc ++ r ∧ r.length = l.length
  | [], acc => ⟨[], by simp [befs], rfl⟩
  | o :: l, acc => by
    obtain ⟨r, h1, h2⟩ := befs_pre l (acc ++ [maskE acc o.after.toList])
    exact ⟨maskE acc o.after.toList :: r, by simp [befs, h1], by simp [h2]⟩
theorem befs_at : ∀ (l : List Oper) (acc : List Nat) (k : Nat) (o : Oper), l[k]? = some o → (befs l acc).getD (acc.length + k) 0 = maskE ((befs l acc).take (acc.length + k)) o.after.toList
  | [], acc, k, o, h => by simp at h
  | o' :: l, acc, 0, o, h => by
    simp at h
    subst h
    obtain ⟨r, h1, h2⟩ := befs_pre l (acc ++ [maskE acc o'.after.toList])
    simp only [befs, h1, Nat.add_zero]
    rw [List.append_assoc, List.take_left, List.getD_eq_getElem?_getD, List.getElem?_append_right (Nat.le_refl _)]
    simp
  | o' :: l, acc, k + 1, o, h => by
    have := befs_at l (acc ++ [maskE acc o'.after.toList]) k o (by simpa using h)
    simp only [List.length_append, List.length_cons, List.length_nil] at this
    simp only [befs]
    rw [show acc.length + (k + 1) = acc.length + (0 + 1) + k from by omega]
    exact this
theorem bef_in {ops : List Oper} {L : Nat → Prop} (hE : ∀ i o, ops[i]? = some o → ∀ e ∈ o.after.toList, Region.binds .any e = true → e.on < i) (hcl : ∀ i, L i → ∀ o, ops[i]? = some o → ∀ e ∈ o.after.toList, Region.binds .any e = true → L e.on) :
    ∀ i o, ops[i]? = some o → (∀ e ∈ o.after.toList, Region.binds .any e = true → L e.on) → ∀ j, bitB ((befs ops []).getD i 0) j = true → L j := by
  intro i
  induction i using Nat.strongRecOn with
  | _ i ih =>
    intro o ho hL j hb
    have := befs_at ops [] i o ho
    simp only [List.length_nil, Nat.zero_add] at this
    rw [this] at hb
    obtain ⟨e, h1, h2, h3⟩ := maskE_bit hb
    have hlt := hE i o ho e h1 h2
    rcases h3 with rfl | h3
    · exact hL e h1 h2
    · have hon := hL e h1 h2
      cases ho' : ops[e.on]? with
      | none =>
        -- nothing there: no bit
        exfalso
        have hlen : i < ops.length := (List.getElem?_eq_some_iff.1 ho).1
        rw [List.getElem?_eq_none_iff] at ho'
        omega
      | some o' =>
        have e1 : ((befs ops []).take i).getD e.on 0 = (befs ops []).getD e.on 0 := by
          rw [List.getD_eq_getElem?_getD, List.getElem?_take_of_lt hlt, ← List.getD_eq_getElem?_getD]
        rw [e1] at h3
        exact ih e.on hlt o' ho' (fun e' he' hb' => hcl e.on hon o' ho' e' he' hb') j h3
theorem alB_ok {f : Nat → Bool} : ∀ {m : Nat}, alB m f = true → ∀ i, i < m → f i = true
  | 0, _, i, hi => by omega
  | m + 1, h, i, hi => by
    simp only [alB, Bool.and_eq_true] at h
    by_cases e : i = m
    · subst e; exact h.1
    · exact alB_ok h.2 i (by omega)
theorem memB_eq {t : Nat} : ∀ {l : List Nat}, memB t l = true ↔ t ∈ l
  | [] => by simp [memB]
  | x :: r => by
    simp only [memB, Bool.or_eq_true, beq_dec, decide_eq_true_eq, memB_eq (l := r), List.mem_cons]
    constructor
    · rintro (h | h)
      · exact .inl h.symm
      · exact .inr h
    · rintro (h | h)
      · exact .inl h.symm
      · exact .inr h
theorem edgesOk_ok {i : Nat} : ∀ {es : List Edge}, edgesOk i es = true → ∀ e ∈ es, Region.binds .any e = true → e.on < i
  | [], _, e, he, _ => by cases he
  | x :: r, h, e, he, hb => by
    simp only [edgesOk, Bool.and_eq_true, Bool.or_eq_true, Bool.not_eq_true', blt_dec, decide_eq_true_eq] at h
    rcases List.mem_cons.1 he with rfl | he
    · rcases h.1 with h1 | h1
      · rw [hb] at h1; cases h1
      · exact h1
    · exact edgesOk_ok h.2 e he hb
/-! ## the run by the text -/
def TS (P : Program) (fid rid n : Nat) (call : Call) (ops : List Oper) (ks B : List Nat) (Fs : Nat → Fr) (Hs Vs : Nat → Hp) (vs : Nat → EV) (hes : List (Nat × Hp)) (k : Nat) : Prop :=
  ∃ o b, ops[k]? = some o ∧ okD n o.dst = true ∧ GRun ops.toArray o (Fs k) = some b ∧ (b = true → EStep P call o (Fs k) (Vs k) (Hs k) (vs k) (Hs (k + 1))) ∧ (b = false → vs k = skipE ∧ Hs (k + 1) = Hs k) ∧
    Fs (k + 1) = setD o.dst (vs k) (Fs k) ∧ (ks.getD k 0 = 3 → (k + 1, Hs (k + 1)) ∈ hes) ∧
    (ks.getD k 0 = 1 → idsB (Hs k).c 8 (vs k) = true ∧ ∀ p ∈ hes, allowed ks B k p.1 = true → isNorm ((compOper P fid rid n ops.toArray o).run call (Fs k) p.2 (Hs k) fun F'' H'' w => bif eqv 8 (vs k) w then .norm F'' H'' else .fail 0) = true)
theorem runDr_inv {fid rid : Nat} {call : Call} {ops : List Oper} {ks B : List Nat} : ∀ (l : List Oper) (i : Nat) (F : Fr) (V H : Hp) (hes : List (Nat × Hp)) (cs : List Chk) (r : CR), l = ops.drop i → i ≤ ops.length →
    runDr P fid rid n call ops ks B i l F V H hes cs = r → (∀ w, r ≠ .fail w) → ∃ (Fs : Nat → Fr) (Hs Vs : Nat → Hp) (vs : Nat → EV) (hes' : List (Nat × Hp)), Fs i = F ∧ Hs i = H ∧ Vs i = V ∧ r = .norm (Fs ops.length) (Hs ops.length) ∧ (∀ x ∈ hes, x ∈ hes') ∧
      (∀ c ∈ cs, chks ks B hes' c = true) ∧ ∀ k, i ≤ k → k < ops.length → TS P fid rid n call ops ks B Fs Hs Vs vs hes' k := by
  intro l
  induction l with
  | nil =>
    intro i F V H hes cs r hl hi h hr
    have hlen : ops.length = i := by
      have := congrArg List.length hl
      simp at this
      omega
    simp only [runDr] at h
    cases hc : cs.all (chks ks B hes) with
    | false => rw [hc] at h; exact absurd h.symm (hr _)
    | true =>
      rw [hc] at h
      refine ⟨fun _ => F, fun _ => H, fun _ => V, fun _ => .any, hes, rfl, rfl, rfl, h.symm, fun x hx => hx, fun c hcm => (List.all_eq_true.1 hc) c hcm, fun k h1 h2 => by omega⟩
  | cons o l ih =>
    intro i F V H hes cs r hl hi h hr
    have hlt : i < ops.length := by
      rcases Nat.lt_or_ge i ops.length with h1 | h1
      · exact h1
      · rw [List.drop_eq_nil_of_le h1] at hl; cases hl
    have ho : ops[i]? = some o := by
      rw [List.getElem?_eq_getElem hlt]
      have := List.drop_eq_getElem_cons hlt
      rw [← hl] at this
      injection this with h1 h2
      rw [h1]
    have hl' : l = ops.drop (i + 1) := by
      have := List.drop_eq_getElem_cons hlt
      rw [← hl] at this
      injection this
    simp only [runDr] at h
    obtain ⟨hd, b, hg, h1, h2⟩ := oper_inv h hr
    -- what follows
    have go : ∀ (v : EV) (H' : Hp), (b = true → EStep P call o F V H v H') → (b = false → v = skipE ∧ H' = H) →
        (bif Nat.beq (ks.getD i 0) 3 then runDr P fid rid n call ops ks B (Nat.succ i) l (setD o.dst v F) H' H' (hes ++ [(Nat.succ i, H')]) cs
          else bif Nat.beq (ks.getD i 0) 1 then (bif idsB H.c 8 v then
            runDr P fid rid n call ops ks B (Nat.succ i) l (setD o.dst v F) V H' hes (⟨i, fun h => isNorm ((compOper P fid rid n ops.toArray o).run call F h H fun F'' H'' w => bif eqv 8 v w then .norm F'' H'' else .fail 0)⟩ :: cs) else .fail (wh fid rid 111))
          else runDr P fid rid n call ops ks B (Nat.succ i) l (setD o.dst v F) V H' hes cs) = r →
        ∃ (Fs : Nat → Fr) (Hs Vs : Nat → Hp) (vs : Nat → EV) (hes' : List (Nat × Hp)), Fs i = F ∧ Hs i = H ∧ Vs i = V ∧ r = .norm (Fs ops.length) (Hs ops.length) ∧ (∀ x ∈ hes, x ∈ hes') ∧
          (∀ c ∈ cs, chks ks B hes' c = true) ∧ ∀ k, i ≤ k → k < ops.length → TS P fid rid n call ops ks B Fs Hs Vs vs hes' k := by
      intro v H' s1 s2 h
      have fin : ∀ (Fs : Nat → Fr) (Hs Vs : Nat → Hp) (vs : Nat → EV) (hes' : List (Nat × Hp)), Fs (i + 1) = setD o.dst v F → Hs (i + 1) = H' → r = .norm (Fs ops.length) (Hs ops.length) → (∀ x ∈ hes, x ∈ hes') → (∀ c ∈ cs, chks ks B hes' c = true) →
          (∀ k, i + 1 ≤ k → k < ops.length → TS P fid rid n call ops ks B Fs Hs Vs vs hes' k) → (ks.getD i 0 = 3 → (i + 1, H') ∈ hes') →
          (ks.getD i 0 = 1 → idsB H.c 8 v = true ∧ ∀ p ∈ hes', allowed ks B i p.1 = true → isNorm ((compOper P fid rid n ops.toArray o).run call F p.2 H fun F'' H'' w => bif eqv 8 v w then .norm F'' H'' else .fail 0) = true) →
          ∃ (Fs : Nat → Fr) (Hs Vs : Nat → Hp) (vs : Nat → EV) (hes' : List (Nat × Hp)), Fs i = F ∧ Hs i = H ∧ Vs i = V ∧ r = .norm (Fs ops.length) (Hs ops.length) ∧ (∀ x ∈ hes, x ∈ hes') ∧
          (∀ c ∈ cs, chks ks B hes' c = true) ∧ ∀ k, i ≤ k → k < ops.length → TS P fid rid n call ops ks B Fs Hs Vs vs hes' k := by
        intro Fs Hs Vs vs hes' e1 e2 e3 e4 e5 e6 e7 e8
        refine ⟨fun k => if k = i then F else Fs k, fun k => if k = i then H else Hs k, fun k => if k = i then V else Vs k, fun k => if k = i then v else vs k, hes', if_pos rfl, if_pos rfl, if_pos rfl, ?_, e4, e5, fun k k1 k2 => ?_⟩
        · simp only [show ¬ ops.length = i from by omega, if_false]; exact e3
        · by_cases hk : k = i
          · subst hk
            refine ⟨o, b, ho, hd, ?_, ?_, ?_, ?_, ?_, ?_⟩
            · simpa using hg
            · simpa [e2] using s1
            · simpa [e2] using s2
            · simpa using e1
            · simpa [e2] using e7
            · simpa using e8
          · have := e6 k (by omega) k2
            unfold TS at this ⊢
            have h1 : ¬ k + 1 = i := by omega
            simpa only [hk, h1, if_false] using this
      by_cases h3 : ks.getD i 0 = 3
      · rw [h3] at h
        simp only [show Nat.beq 3 3 = true from rfl, cond_true] at h
        obtain ⟨Fs, Hs, Vs, vs, hes', e1, e2, _, e3, e4, e5, e6⟩ := ih (i + 1) _ _ _ _ _ r hl' (by omega) h hr
        exact fin Fs Hs Vs vs hes' e1 e2 e3 (fun x hx => e4 x (by simp [hx])) e5 e6 (fun _ => e4 _ (by simp)) (fun h1 => by rw [h3] at h1; cases h1)
      · have h3' : Nat.beq (ks.getD i 0) 3 = false := by rw [beq_dec]; simpa using h3
        rw [h3'] at h
        simp only [cond_false] at h
        by_cases h1' : ks.getD i 0 = 1
        · rw [h1'] at h
          simp only [show Nat.beq 1 1 = true from rfl, cond_true] at h
          cases hid : idsB H.c 8 v with
          | false => rw [hid] at h; exact absurd h.symm (hr _)
          | true =>
            rw [hid] at h
            simp only [cond_true] at h
            obtain ⟨Fs, Hs, Vs, vs, hes', e1, e2, _, e3, e4, e5, e6⟩ := ih (i + 1) _ _ _ _ _ r hl' (by omega) h hr
            refine fin Fs Hs Vs vs hes' e1 e2 e3 e4 (fun c hc => e5 c (by simp [hc])) e6 (fun h => absurd h h3) (fun _ => ⟨hid, fun p hp ha => ?_⟩)
            have := e5 _ List.mem_cons_self
            simp only [chks, List.all_eq_true] at this
            have := this p hp
            rw [ha] at this
            simpa using this
        · have h1'' : Nat.beq (ks.getD i 0) 1 = false := by rw [beq_dec]; simpa using h1'
          rw [h1''] at h
          simp only [cond_false] at h
          obtain ⟨Fs, Hs, Vs, vs, hes', e1, e2, _, e3, e4, e5, e6⟩ := ih (i + 1) _ _ _ _ _ r hl' (by omega) h hr
          exact fin Fs Hs Vs vs hes' e1 e2 e3 e4 e5 e6 (fun h => absurd h h3) (fun h => absurd h h1')
    cases b with
    | true =>
      obtain ⟨v, H', he, hk⟩ := h1 rfl
      exact go v H' (fun _ => he) (fun h => by cases h) hk.symm
    | false => exact go skipE H (fun h => by cases h) (fun _ => ⟨rfl, rfl⟩) (h2 rfl).symm
end Go.AW.Ev

set_option linter.unusedSimpArgs false
set_option linter.unusedVariables false
namespace Go.AW.Ev
open Go Go.RowKit
variable {P : Program} {n : Nat} {ds : List Deferred} {Q : AQ}
theorem R.adopt {ρ : Ren} {σ0 σ : AS} {H : Hp} (h : R P ρ σ0 H σ) (hc : H.c < 32768) {x N : Nat} {b : Blk} {ab : ABlk} (hx : σ0 x = some ab) (hb : BR P (ρ.ext H.c (x, N)) N b ab) :
    R P (ρ.ext H.c (x, N)) (fun j => if j = x then none else σ0 j) (H.new b) σ := by
  have hσ : σ x = some ab := h.le x ab hx
  have h1 : R P ρ (fun j => if j = x then none else σ0 j) H (fun j => if j = x then none else σ j) := by
    refine ⟨⟨h.rb.lt, fun j hj hlj => ?_⟩, h.inj, fun j b hj => ?_, fun i y M hl hi => ?_, h.fresh, h.dead⟩
    · obtain ⟨y, M, ab', k1, k2, k3⟩ := h.rb.blk j hj hlj
      have : y ≠ x := by rintro rfl; have := h.out j _ M hlj k1; rw [hx] at this; cases this
      exact ⟨y, M, ab', k1, by simp only [this, if_false]; exact k2, k3⟩
    · by_cases e : j = x
      · simp only [e, if_true] at hj; cases hj
      · simp only [e, if_false] at hj ⊢; exact h.le j b hj
    · by_cases e : y = x
      · simp [e]
      · simp only [e, if_false]; exact h.out i y M hl hi
  obtain ⟨_, g⟩ := h1.new hc (by simp) hb
  rwa [set_if, AS.set_id _ _ _ hσ] at g
theorem R.more {ρ : Ren} {σ0 σ : AS} {H : Hp} (h : R P ρ σ0 H σ) {x : Nat} (ab : ABlk) (hx : σ x = none) : R P ρ (σ0.set x ab) H (σ.set x ab) := by
  have ne : ∀ {j y M}, (H.get j).live = true → ρ j = some (y, M) → y ≠ x := by
    rintro j y M hl hj rfl
    obtain ⟨ab', k1, _⟩ := h.rb.at hj hl
    rw [hx] at k1; cases k1
  refine ⟨⟨h.rb.lt, fun j hj hlj => ?_⟩, h.inj, le_set2 h.le, fun i y M hl hi => ?_, h.fresh, h.dead⟩
  · obtain ⟨y, M, ab', k1, k2, k3⟩ := h.rb.blk j hj hlj
    exact ⟨y, M, ab', k1, by rw [AS.set_ne _ _ (ne hlj k1)]; exact k2, k3⟩
  · rw [AS.set_ne _ _ (ne hl hi)]; exact h.out i y M hl hi
theorem R.base {ρ : Ren} {σ0 σ1 σ : AS} {H : Hp} (h : R P ρ σ1 H σ) (hle : AS.le σ0 σ1) : R P ρ σ0 H σ := by
  refine ⟨h.rb, h.inj, AS.le_trans hle h.le, fun i y M hl hi => ?_, h.fresh, h.dead⟩
  have := h.out i y M hl hi
  cases hs : σ0 y with
  | none => rfl
  | some b => have h2 := hle y b hs; rw [this] at h2; cases h2
theorem RB.mono {ρ ρ' : Ren} {H : Hp} {σ : AS} (h : RB P ρ H σ) (hle : Ren.le ρ ρ') (hlt : ∀ i p, ρ' i = some p → i < 32768) : RB P ρ' H σ :=
  ⟨hlt, fun i hi hl => by
    obtain ⟨x, N, ab, h1, h2, h3⟩ := h.blk i hi hl
    exact ⟨x, N, ab, hle _ _ h1, h2, h3.mono hle⟩⟩
structure DD (P : Program) (fid rid n : Nat) (call : Call) (ops : List Oper) (Fs : Nat → Fr) (Hs Vs : Nat → Hp) (vs : Nat → EV) (hes : List (Nat × Hp)) : Prop where
  hn : n ≤ 512
  hcall : CallOK P call
  ok : okDraw ops (befs ops []) (kinds P ops) = true
  ts : ∀ k, k < ops.length → TS P fid rid n call ops (kinds P ops) (befs ops []) Fs Hs Vs vs hes k
  zero : (0, Hs 0) ∈ hes
section
variable {fid rid : Nat} {call : Call} {ops : List Oper} {Fs : Nat → Fr} {Hs Vs : Nat → Hp} {vs : Nat → EV} {hes : List (Nat × Hp)}
theorem DD.pair (D : DD P fid rid n call ops Fs Hs Vs vs hes) {j i : Nat} (hj : j < i) (hi : i < ops.length) : pairOk ops (befs ops []) (kinds P ops) j i = true := by
  have := alB_ok D.ok i hi
  simp only [Bool.and_eq_true] at this
  exact alB_ok this.2 j hj
theorem DD.edge (D : DD P fid rid n call ops Fs Hs Vs vs hes) (i : Nat) (o : Oper) (ho : ops[i]? = some o) (e : Edge) (he : e ∈ o.after.toList) (hb : Region.binds .any e = true) : e.on < i := by
  have hi := (List.getElem?_eq_some_iff.1 ho).1
  have := alB_ok D.ok i hi
  simp only [Bool.and_eq_true, ho] at this
  exact edgesOk_ok this.1 e he hb
theorem kind_at {i : Nat} {o : Oper} (ho : ops[i]? = some o) : (kinds P ops).getD i 0 = kindE (compOp P o.op) := by
  simp [kinds, List.getD_eq_getElem?_getD, ho]
theorem DD.cstep (D : DD P fid rid n call ops Fs Hs Vs vs hes) {k : Nat} (hk : k < ops.length) : (Hs k).c ≤ (Hs (k + 1)).c := by
  obtain ⟨o, b, h1, h2, h3, h4, h5, _⟩ := D.ts k hk
  cases b with
  | true => exact estep_c D.hcall (h4 rfl)
  | false => rw [(h5 rfl).2]; exact Nat.le_refl _
theorem DD.cmono (D : DD P fid rid n call ops Fs Hs Vs vs hes) {i : Nat} : ∀ {j : Nat}, i ≤ j → j ≤ ops.length → (Hs i).c ≤ (Hs j).c := by
  intro j
  induction j with
  | zero => intro h _; rw [show i = 0 from by omega]; exact Nat.le_refl _
  | succ j ih =>
    intro h1 h2
    by_cases e : i = j + 1
    · rw [e]; exact Nat.le_refl _
    · exact Nat.le_trans (ih (by omega) (by omega)) (D.cstep (by omega))
theorem DD.calm (D : DD P fid rid n call ops Fs Hs Vs vs hes) {k : Nat} (hk : k < ops.length) (h3 : (kinds P ops).getD k 0 ≠ 3) :
    Hs (k + 1) = Hs k ∨ ∃ b, Hs (k + 1) = (Hs k).new b ∧ (Hs k).c < 32768 ∧ (kinds P ops).getD k 0 = 2 := by
  obtain ⟨o, b, h1, h2, _, h4, h5, _⟩ := D.ts k hk
  rw [kind_at h1] at h3 ⊢
  cases b with
  | false => exact .inl (h5 rfl).2
  | true =>
    have he := h4 rfl
    unfold EStep at he
    generalize compOp P o.op = e at he h3
    cases e with
    | pur f => exact .inl he.2.2
    | val f => exact .inl he.2.2
    | new f => obtain ⟨b, mk, _, q1, _, q2⟩ := he; exact .inr ⟨b, q2, q1, rfl⟩
    | eff f => exact absurd rfl h3
    | bad w => exact he.elim
theorem new_c {H H' : Hp} {b : Blk} (h : H' = H.new b) : H'.c = H.c + 1 := by rw [h]; rfl
theorem DD.slot (D : DD P fid rid n call ops Fs Hs Vs vs hes) : ∀ {i : Nat}, i ≤ ops.length → ∀ {t : Nat}, t < 512 →
    (∃ j, j < i ∧ dstAt ops j = some t ∧ T3.get (p3 t) (Fs i) = vs j) ∨ ((∀ j, j < i → dstAt ops j ≠ some t) ∧ T3.get (p3 t) (Fs i) = T3.get (p3 t) (Fs 0)) := by
  intro i
  induction i with
  | zero => intro _ t _; exact .inr ⟨fun j hj => by omega, rfl⟩
  | succ i ih =>
    intro hi t ht
    obtain ⟨o, b, h1, h2, _, _, _, h6, _⟩ := D.ts i (by omega)
    have hdst : dstAt ops i = o.dst := by simp [dstAt, h1]
    rw [h6]
    cases hd : o.dst with
    | none =>
      rcases ih (by omega) ht with ⟨j, k1, k2, k3⟩ | ⟨k1, k2⟩
      · exact .inl ⟨j, by omega, k2, k3⟩
      · refine .inr ⟨fun j hj => ?_, k2⟩
        by_cases e : j = i
        · rw [e, hdst, hd]; simp
        · exact k1 j (by omega)
    | some d =>
      have hd5 : d < 512 := Nat.lt_of_lt_of_le (d_lt h2 d hd) D.hn
      by_cases e : t = d
      · subst e
        refine .inl ⟨i, by omega, by rw [hdst, hd], ?_⟩
        show T3.get (p3 t) (T3.set (p3 t) (vs i) (Fs i)) = vs i
        rw [get_put ht ht, if_pos rfl]
      · have hg : T3.get (p3 t) (setD (some d) (vs i) (Fs i)) = T3.get (p3 t) (Fs i) := by
          show T3.get (p3 t) (T3.set (p3 d) (vs i) (Fs i)) = _
          rw [get_put ht hd5, if_neg e]
        rw [hg]
        rcases ih (by omega) ht with ⟨j, k1, k2, k3⟩ | ⟨k1, k2⟩
        · exact .inl ⟨j, by omega, k2, k3⟩
        · refine .inr ⟨fun j hj => ?_, k2⟩
          by_cases ej : j = i
          · rw [ej, hdst, hd]; intro h; injection h with h; exact e h.symm
          · exact k1 j (by omega)
structure DI (P : Program) (ops : List Oper) (Fs : Nat → Fr) (Hs : Nat → Hp) (vs : Nat → EV) (ρ0 : Ren) (σ0 : AS) (L : Nat → Prop) (s : AW.Fr) (σ : AS) (p : Nat) (ρ : Ren) (σp : AS) : Prop where
  cl : ∀ i, L i → ∀ o, ops[i]? = some o → ∀ e ∈ o.after.toList, Region.binds .any e = true → L e.on
  lm : ∀ i, L i → i < ops.length
  pe : ∀ e, e < ops.length → (kinds P ops).getD e 0 = 3 → (L e ↔ e < p)
  pb : p = 0 ∨ ∃ e, p = e + 1 ∧ (kinds P ops).getD e 0 = 3 ∧ e < ops.length
  dom : ∀ j q, ρ j = some q → j < (Hs p).c ∨ ∃ a, L a ∧ p ≤ a ∧ (Hs a).c < (Hs (a + 1)).c ∧ j = (Hs a).c
  lt : ∀ j q, ρ j = some q → j < 32768
  le0 : Ren.le ρ0 ρ
  sl : ∀ i o t, L i → ops[i]? = some o → o.dst = some t → VR (ρ.cut (Hs (i + 1)).c) (vs i) (s t)
  ini : ∀ t, t < 512 → (∀ i, L i → dstAt ops i ≠ some t) → VR (ρ.cut (Hs 0).c) (T3.get (p3 t) (Fs 0)) (s t)
  r : R P (ρ.cut (Hs p).c) σp (Hs p) σ
  le : AS.le σ0 σp
  pend : ∀ a b, L a → p ≤ a → Hs (a + 1) = (Hs a).new b → (Hs a).c < 32768 → (kinds P ops).getD a 0 = 2 → ∃ x N ab, ρ (Hs a).c = some (x, N) ∧ σp x = some ab ∧ σ0 x = none ∧ BR P (ρ.cut ((Hs a).c + 1)) N b ab
  pinj : ∀ a a' x N N', L a → L a' → p ≤ a → p ≤ a' → (Hs a).c < (Hs (a + 1)).c → (Hs a').c < (Hs (a' + 1)).c → ρ (Hs a).c = some (x, N) → ρ (Hs a').c = some (x, N') → a = a'
variable {ρ0 : Ren} {σ0 : AS} {L : Nat → Prop} {s : AW.Fr} {σ σp : AS} {p : Nat} {ρ : Ren}
theorem DI.pm (I : DI P ops Fs Hs vs ρ0 σ0 L s σ p ρ σp) : p ≤ ops.length := by
  rcases I.pb with h | ⟨e, h1, _, h2⟩ <;> omega
theorem DI.advance (D : DD P fid rid n call ops Fs Hs Vs vs hes) (I : DI P ops Fs Hs vs ρ0 σ0 L s σ p ρ σp) : ∀ {q : Nat}, p ≤ q → q ≤ ops.length → (∀ k, p ≤ k → k < q → (kinds P ops).getD k 0 ≠ 3 ∧ ((kinds P ops).getD k 0 = 2 → L k)) →
    ∃ σq, R P (ρ.cut (Hs q).c) σq (Hs q) σ ∧ AS.le σ0 σq ∧ ∀ x b, σp x = some b → (∀ a, L a → p ≤ a → a < q → (Hs a).c < (Hs (a + 1)).c → ∀ N, ρ (Hs a).c ≠ some (x, N)) → σq x = some b := by
  intro q
  induction q with
  | zero =>
    intro h1 _ _
    have : p = 0 := by omega
    subst this
    exact ⟨σp, I.r, I.le, fun x b hx _ => hx⟩
  | succ q ih =>
    intro h1 h2 h3
    by_cases e : p = q + 1
    · subst e
      exact ⟨σp, I.r, I.le, fun x b hx _ => hx⟩
    · obtain ⟨σq, g1, g2, g3⟩ := ih (by omega) (by omega) (fun k k1 k2 => h3 k k1 (by omega))
      obtain ⟨k3, k2⟩ := h3 q (by omega) (by omega)
      rcases D.calm (by omega) k3 with he | ⟨b, he, hc, hk⟩
      · refine ⟨σq, by rw [he]; exact g1, g2, fun x b hx hn => g3 x b hx fun a a0 a1 a2 => hn a a0 a1 (by omega)⟩
      · have hL := k2 hk
        obtain ⟨x, N, ab, q1, q2, q3, q4⟩ := I.pend q b hL (by omega) he hc hk
        have hcc := new_c he
        have hσq : σq x = some ab := by
          refine g3 x ab q2 fun a a0 a1 a2 a3 N' ha => ?_
          have := I.pinj a q x N' N a0 hL a1 (by omega) a3 (by omega) ha q1
          omega
        have hcut : ρ.cut ((Hs q).c + 1) = (ρ.cut (Hs q).c).ext (Hs q).c (x, N) := cut_ext q1
        have := g1.adopt hc hσq (by rw [← hcut]; exact q4)
        refine ⟨_, by rw [hcc, hcut, he]; exact this, fun j b' hj => ?_, fun y b' hy hn => ?_⟩
        · have : j ≠ x := by rintro rfl; rw [q3] at hj; cases hj
          simp only [this, if_false]
          exact g2 j b' hj
        · have : y ≠ x := by rintro rfl; exact hn q hL (by omega) (by omega) (by omega) N q1
          simp only [this, if_false]
          exact g3 y b' hy fun a a0 a1 a2 => hn a a0 a1 (by omega)
theorem DI.before (D : DD P fid rid n call ops Fs Hs Vs vs hes) (I : DI P ops Fs Hs vs ρ0 σ0 L s σ p ρ σp) {i : Nat} {o : Oper} (ho : ops[i]? = some o) (hL : ∀ e ∈ o.after.toList, Region.binds .any e = true → L e.on) {j : Nat} (hb : bitB ((befs ops []).getD i 0) j = true) : L j :=
  bef_in D.edge I.cl i o ho hL j hb
theorem DI.before' (D : DD P fid rid n call ops Fs Hs Vs vs hes) (I : DI P ops Fs Hs vs ρ0 σ0 L s σ p ρ σp) {i j : Nat} (hi : L i) (hb : bitB ((befs ops []).getD i 0) j = true) : L j := by
  have hlt := I.lm i hi
  have ho : ops[i]? = some ops[i] := List.getElem?_eq_getElem hlt
  exact I.before D ho (I.cl i hi _ ho) hb
theorem pair_dst {ops : List Oper} {B ks : List Nat} {j i t : Nat} (h : pairOk ops B ks j i = true) (hj : dstAt ops j = some t) : dstAt ops i ≠ some t ∧ (t ∈ looksB ops i → bitB (B.getD i 0) j = true) := by
  simp only [pairOk, hj, Bool.and_eq_true, Bool.or_eq_true, Bool.not_eq_true'] at h
  obtain ⟨⟨⟨h1, h2⟩, _⟩, _⟩ := h
  constructor
  · intro hi
    rw [hi] at h1
    simp at h1
  · intro ht
    rcases h2 with h2 | h2
    · rw [memB_eq.2 ht] at h2; cases h2
    · exact h2
theorem pair_look {ops : List Oper} {B ks : List Nat} {j i u : Nat} (h : pairOk ops B ks j i = true) (hi : dstAt ops i = some u) (hu : u ∈ looksB ops j) : bitB (B.getD i 0) j = true := by
  simp only [pairOk, hi, Bool.and_eq_true, Bool.or_eq_true, Bool.not_eq_true'] at h
  rcases h.1.2 with h2 | h2
  · rw [memB_eq.2 hu] at h2; cases h2
  · exact h2
theorem pair_eff {ops : List Oper} {B ks : List Nat} {j i : Nat} (h : pairOk ops B ks j i = true) (hi : ks.getD i 0 = 3) (hj : ks.getD j 0 = 3 ∨ ks.getD j 0 = 2) : bitB (B.getD i 0) j = true := by
  simp only [pairOk, Bool.and_eq_true, Bool.or_eq_true, Bool.not_eq_true', beq_dec, decide_eq_false_iff_not, Bool.or_eq_false_iff] at h
  rcases h.2 with (h | h) | h
  · exact absurd hi h
  · rcases hj with hj | hj
    · exact absurd hj h.1
    · exact absurd hj h.2
  · exact h
theorem DI.look (D : DD P fid rid n call ops Fs Hs Vs vs hes) (I : DI P ops Fs Hs vs ρ0 σ0 L s σ p ρ σp) {i : Nat} {o : Oper} (ho : ops[i]? = some o) (hi : ¬ L i) (hL : ∀ e ∈ o.after.toList, Region.binds .any e = true → L e.on) {t : Nat} (ht : t ∈ looksB ops i) :
    VR (ρ.cut (Hs i).c) ((opd (.tmp t)).get (Fs i)) (s t) := by
  have hlt : i < ops.length := (List.getElem?_eq_some_iff.1 ho).1
  by_cases h5 : t < 512
  · rw [opd_tmp h5]
    rcases D.slot (by omega : i ≤ ops.length) h5 with ⟨j, k1, k2, k3⟩ | ⟨k1, k2⟩
    · rw [k3]
      have hb := (pair_dst (D.pair k1 hlt) k2).2 ht
      have hj := I.before D ho hL hb
      have hoj : ops[j]? = some ops[j] := List.getElem?_eq_getElem (by omega)
      have hdj : ops[j].dst = some t := by simpa [dstAt, hoj] using k2
      exact (I.sl j _ t hj hoj hdj).mono (cut_mono ρ (D.cmono (by omega) (by omega)))
    · rw [k2]
      refine (I.ini t h5 fun j hj hd => ?_).mono (cut_mono ρ (D.cmono (by omega) (by omega)))
      rcases Nat.lt_trichotomy j i with h | h | h
      · exact k1 j h hd
      · subst h; exact hi hj
      · exact hi (I.before' D hj (pair_look (D.pair h (I.lm j hj)) hd ht))
  · have : Nat.blt t 512 = false := by rw [blt_dec]; simpa using h5
    have e : (opd (.tmp t)).get (Fs i) = .any := by simp [opd, this]
    rw [e]; exact .any _
theorem DI.put (D : DD P fid rid n call ops Fs Hs Vs vs hes) (I : DI P ops Fs Hs vs ρ0 σ0 L s σ p ρ σp) {i : Nat} {o : Oper} (ho : ops[i]? = some o) (hi : ¬ L i) (hL : ∀ e ∈ o.after.toList, Region.binds .any e = true → L e.on)
    {av : AV} {σ' σp' : AS} {p' : Nat} {ρ' : Ren} (hle : Ren.le ρ ρ') (hv : VR (ρ'.cut (Hs (i + 1)).c) (vs i) av)
    (pe : ∀ e, e < ops.length → (kinds P ops).getD e 0 = 3 → ((L e ∨ e = i) ↔ e < p')) (pb : p' = 0 ∨ ∃ e, p' = e + 1 ∧ (kinds P ops).getD e 0 = 3 ∧ e < ops.length)
    (dom : ∀ j q, ρ' j = some q → j < (Hs p').c ∨ ∃ a, (L a ∨ a = i) ∧ p' ≤ a ∧ (Hs a).c < (Hs (a + 1)).c ∧ j = (Hs a).c) (lt : ∀ j q, ρ' j = some q → j < 32768)
    (r : R P (ρ'.cut (Hs p').c) σp' (Hs p') σ') (le : AS.le σ0 σp')
    (pend : ∀ a b, (L a ∨ a = i) → p' ≤ a → Hs (a + 1) = (Hs a).new b → (Hs a).c < 32768 → (kinds P ops).getD a 0 = 2 → ∃ x N ab, ρ' (Hs a).c = some (x, N) ∧ σp' x = some ab ∧ σ0 x = none ∧ BR P (ρ'.cut ((Hs a).c + 1)) N b ab)
    (pinj : ∀ a a' x N N', (L a ∨ a = i) → (L a' ∨ a' = i) → p' ≤ a → p' ≤ a' → (Hs a).c < (Hs (a + 1)).c → (Hs a').c < (Hs (a' + 1)).c → ρ' (Hs a).c = some (x, N) → ρ' (Hs a').c = some (x, N') → a = a') :
    DI P ops Fs Hs vs ρ0 σ0 (fun k => L k ∨ k = i) (s.put o.dst av) σ' p' ρ' σp' := by
  have hlt : i < ops.length := (List.getElem?_eq_some_iff.1 ho).1
  have hdi : dstAt ops i = o.dst := by simp [dstAt, ho]
  have other : ∀ t, (∀ d, o.dst = some d → t ≠ d) → (s.put o.dst av) t = s t := by
    intro t h
    cases hd : o.dst with
    | none => rfl
    | some d => simp [AW.Fr.put, h d hd]
  refine ⟨?_, ?_, pe, pb, dom, lt, I.le0.trans hle, ?_, ?_, r, le, pend, pinj⟩
  · rintro k (hk | rfl) o' ho' e he hb
    · exact .inl (I.cl k hk o' ho' e he hb)
    · rw [ho] at ho'; cases ho'
      exact .inl (hL e he hb)
  · rintro k (hk | rfl)
    · exact I.lm k hk
    · exact hlt
  · rintro k o' t (hk | rfl) ho' ht
    · have hkl := I.lm k hk
      have hdk : dstAt ops k = some t := by simp [dstAt, ho', ht]
      have hne : k ≠ i := by rintro rfl; exact hi hk
      have : ∀ d, o.dst = some d → t ≠ d := by
        rintro d hd rfl
        rw [← hdi] at hd
        rcases Nat.lt_or_ge k i with h | h
        · exact (pair_dst (D.pair h hlt) hdk).1 hd
        · exact (pair_dst (D.pair (by omega) hkl) hd).1 hdk
      rw [other t this]
      exact (I.sl k o' t hk ho' ht).mono (cut_ren hle _)
    · rw [ho] at ho'; cases ho'
      have : (s.put o.dst av) t = av := by simp [AW.Fr.put, ht]
      rw [this]; exact hv
  · intro t ht hn
    rw [other t (fun d hd e => hn i (.inr rfl) (by rw [hdi, hd, e]))]
    exact (I.ini t ht fun k hk => hn k (.inl hk)).mono (cut_ren hle _)
end
end Go.AW.Ev

set_option linter.unusedSimpArgs false
set_option linter.unusedVariables false
namespace Go.AW.Ev
open Go Go.RowKit
variable {P : Program} {n : Nat} {ds : List Deferred} {Q : AQ}
section
variable {fid rid : Nat} {call : Call} {ops : List Oper} {Fs : Nat → Fr} {Hs Vs : Nat → Hp} {vs : Nat → EV} {hes : List (Nat × Hp)}
variable {ρ0 : Ren} {σ0 : AS} {L : Nat → Prop} {s : AW.Fr} {σ σp : AS} {p : Nat} {ρ : Ren}
def NextI (P : Program) (ops : List Oper) (Fs : Nat → Fr) (Hs : Nat → Hp) (vs : Nat → EV) (ρ0 : Ren) (σ0 : AS) (L : Nat → Prop) (i : Nat) (s' : AW.Fr) (σ' : AS) : Prop :=
  ∃ p' ρ' σp', DI P ops Fs Hs vs ρ0 σ0 (fun k => L k ∨ k = i) s' σ' p' ρ' σp'
theorem DI.kind3 (D : DD P fid rid n call ops Fs Hs Vs vs hes) (I : DI P ops Fs Hs vs ρ0 σ0 L s σ p ρ σp) {i : Nat} {o : Oper} (ho : ops[i]? = some o) (hi : ¬ L i) (hL : ∀ e ∈ o.after.toList, Region.binds .any e = true → L e.on) (hk : (kinds P ops).getD i 0 = 3) :
    p ≤ i ∧ (∀ e, e < ops.length → (kinds P ops).getD e 0 = 3 → ((L e ∨ e = i) ↔ e < i + 1)) ∧ ∀ k, p ≤ k → k < i → (kinds P ops).getD k 0 ≠ 3 ∧ ((kinds P ops).getD k 0 = 2 → L k) := by
  have hlt : i < ops.length := (List.getElem?_eq_some_iff.1 ho).1
  have le : ∀ e, e < ops.length → (kinds P ops).getD e 0 = 3 → L e → e < i := by
    intro e he hke hLe
    rcases Nat.lt_trichotomy e i with h | h | h
    · exact h
    · subst h; exact absurd hLe hi
    · exact absurd (I.before' D hLe (pair_eff (D.pair h he) hke (.inl hk))) hi
  have ge : ∀ e, e < i → ((kinds P ops).getD e 0 = 3 ∨ (kinds P ops).getD e 0 = 2) → L e := fun e he hke => I.before D ho hL (pair_eff (D.pair he hlt) hk hke)
  have hp : p ≤ i := by
    rcases I.pb with h | ⟨e, h1, h2, h3⟩
    · omega
    · have := le e h3 h2 ((I.pe e h3 h2).2 (by omega))
      omega
  refine ⟨hp, fun e he hke => ⟨?_, fun h => ?_⟩, fun k k1 k2 => ⟨fun h3 => ?_, fun h2 => ge k k2 (.inr h2)⟩⟩
  · rintro (h | rfl)
    · have := le e he hke h; omega
    · omega
  · by_cases e1 : e = i
    · exact .inr e1
    · exact .inl (ge e (by omega) (.inl hke))
  · have := (I.pe k (by omega) h3).1 (ge k k2 (.inl h3))
    omega
theorem DI.behind (D : DD P fid rid n call ops Fs Hs Vs vs hes) (I : DI P ops Fs Hs vs ρ0 σ0 L s σ p ρ σp) {i : Nat} {o : Oper} (ho : ops[i]? = some o) (hi : ¬ L i) (hL : ∀ e ∈ o.after.toList, Region.binds .any e = true → L e.on) (hk : (kinds P ops).getD i 0 = 3)
    {σq : AS} (g2 : AS.le σ0 σq) (g3 : ∀ x b, σp x = some b → (∀ a, L a → p ≤ a → a < i → (Hs a).c < (Hs (a + 1)).c → ∀ N, ρ (Hs a).c ≠ some (x, N)) → σq x = some b)
    {ρ'' : Ren} {av : AV} {σ' : AS} (q1 : Ren.le (ρ.cut (Hs i).c) ρ'') (q2 : VR ρ'' (vs i) av) (q3 : R P ρ'' σq (Hs (i + 1)) σ') : NextI P ops Fs Hs vs ρ0 σ0 L i (s.put o.dst av) σ' := by
  have hlt : i < ops.length := (List.getElem?_eq_some_iff.1 ho).1
  obtain ⟨hp, hpe, hbt⟩ := I.kind3 D ho hi hL hk
  have hcp : (Hs p).c ≤ (Hs i).c := D.cmono hp (by omega)
  have hc1 := D.cstep hlt
  -- the full names
  let ρ' : Ren := fun j => if j < (Hs (i + 1)).c then ρ'' j else ρ j
  have hin : ∀ {j}, j < (Hs (i + 1)).c → ρ' j = ρ'' j := fun h => if_pos h
  have hout : ∀ {j}, (Hs (i + 1)).c ≤ j → ρ' j = ρ j := fun h => if_neg (by omega)
  have early : ∀ {a}, L a → a < i → (Hs (a + 1)).c ≤ (Hs i).c := fun _ h => D.cmono (by omega) (by omega)
  have late : ∀ {a}, L a → ¬ a < i → i + 1 ≤ a := fun hLa h => by
    have : ‹Nat› ≠ i := by rintro rfl; exact hi hLa
    omega
  have hle : Ren.le ρ ρ' := by
    intro j q hj
    by_cases h : j < (Hs (i + 1)).c
    · rw [hin h]
      refine q1 j q ?_
      have : j < (Hs i).c := by
        rcases I.dom j q hj with h1 | ⟨a, a0, a1, a2, rfl⟩
        · omega
        · by_cases ha : a < i
          · have := early a0 ha; omega
          · have := D.cmono (late a0 ha) (Nat.le_of_lt (I.lm a a0)); omega
      unfold Ren.cut
      rw [if_pos this]; exact hj
    · rw [hout (by omega)]; exact hj
  have hcut : ρ'.cut (Hs (i + 1)).c = ρ'' := by
    funext j
    unfold Ren.cut
    by_cases h : j < (Hs (i + 1)).c
    · rw [if_pos h, hin h]
    · rw [if_neg h]; exact (q3.fresh j (by omega)).symm
  refine ⟨i + 1, ρ', σq, I.put D ho hi hL hle (by rw [hcut]; exact q2) hpe (.inr ⟨i, rfl, hk, hlt⟩) ?_ ?_ (by rw [hcut]; exact q3) g2 ?_ ?_⟩
  · intro j q hj
    by_cases h : j < (Hs (i + 1)).c
    · exact .inl h
    · rw [hout (by omega)] at hj
      rcases I.dom j q hj with h1 | ⟨a, a0, a1, a2, rfl⟩
      · omega
      · refine .inr ⟨a, .inl a0, ?_, a2, rfl⟩
        by_cases ha : a < i
        · have := early a0 ha; omega
        · exact late a0 ha
  · intro j q hj
    by_cases h : j < (Hs (i + 1)).c
    · rw [hin h] at hj; exact q3.rb.lt j q hj
    · rw [hout (by omega)] at hj; exact I.lt j q hj
  · rintro a b (ha | rfl) hpa hn hc hka
    · obtain ⟨x, N, ab, k1, k2, k3, k4⟩ := I.pend a b ha (by omega) hn hc hka
      have hca : (Hs (i + 1)).c ≤ (Hs a).c := D.cmono hpa (Nat.le_of_lt (I.lm a ha))
      refine ⟨x, N, ab, by rw [hout hca]; exact k1, g3 x ab k2 fun a' b0 b1 b2 b3 N' hb => ?_, k3, k4.mono (cut_ren hle _)⟩
      have := I.pinj a' a x N' N b0 ha b1 (by omega) b3 (by rw [new_c hn]; omega) hb k1
      omega
    · omega
  · rintro a a' x N N' (ha | rfl) (ha' | rfl) hpa hpa' b1 b2 e1 e2
    · rw [hout (D.cmono hpa (Nat.le_of_lt (I.lm a ha)))] at e1
      rw [hout (D.cmono hpa' (Nat.le_of_lt (I.lm a' ha')))] at e2
      exact I.pinj a a' x N N' ha ha' (by omega) (by omega) b1 b2 e1 e2
    · omega
    · omega
    · rfl
theorem DI.calm (D : DD P fid rid n call ops Fs Hs Vs vs hes) (I : DI P ops Fs Hs vs ρ0 σ0 L s σ p ρ σp) {i : Nat} {o : Oper} (ho : ops[i]? = some o) (hi : ¬ L i) (hL : ∀ e ∈ o.after.toList, Region.binds .any e = true → L e.on) (hk : (kinds P ops).getD i 0 ≠ 3)
    (hH : Hs (i + 1) = Hs i) {av : AV} (hv : VR (ρ.cut (Hs i).c) (vs i) av) : NextI P ops Fs Hs vs ρ0 σ0 L i (s.put o.dst av) σ := by
  refine ⟨p, ρ, σp, I.put D ho hi hL (.refl ρ) (by rw [hH]; exact hv) (fun e he hke => ?_) I.pb (fun j q hj => ?_) I.lt I.r I.le ?_ ?_⟩
  · rw [← I.pe e he hke]
    constructor
    · rintro (h | rfl)
      · exact h
      · exact absurd hke hk
    · exact .inl
  · rcases I.dom j q hj with h | ⟨a, a0, a1, a2, a3⟩
    · exact .inl h
    · exact .inr ⟨a, .inl a0, a1, a2, a3⟩
  · rintro a b (ha | rfl) hpa hn hc hka
    · exact I.pend a b ha hpa hn hc hka
    · have := new_c hn; rw [hH] at this; omega
  · rintro a a' x N N' (ha | rfl) (ha' | rfl) hpa hpa' b1 b2 e1 e2
    · exact I.pinj a a' x N N' ha ha' hpa hpa' b1 b2 e1 e2
    · rw [hH] at b2; omega
    · rw [hH] at b1; omega
    · rfl
theorem DI.made (D : DD P fid rid n call ops Fs Hs Vs vs hes) (I : DI P ops Fs Hs vs ρ0 σ0 L s σ p ρ σp) {i : Nat} {o : Oper} (ho : ops[i]? = some o) (hi : ¬ L i) (hL : ∀ e ∈ o.after.toList, Region.binds .any e = true → L e.on) (hk : (kinds P ops).getD i 0 = 2)
    {b : Blk} (hH : Hs (i + 1) = (Hs i).new b) (hc : (Hs i).c < 32768) {x N : Nat} {ab : ABlk} {av : AV} (hx : σ x = none) (hb : BR P ((ρ.cut (Hs i).c).ext (Hs i).c (x, N)) N b ab) (hv : VR ((ρ.cut (Hs i).c).ext (Hs i).c (x, N)) (vs i) av) :
    NextI P ops Fs Hs vs ρ0 σ0 L i (s.put o.dst av) (σ.set x ab) := by
  have hlt : i < ops.length := (List.getElem?_eq_some_iff.1 ho).1
  have hc1 := new_c hH
  have hp : p ≤ i := by
    rcases I.pb with h | ⟨e, h1, h2, h3⟩
    · omega
    · have hLe := (I.pe e h3 h2).2 (by omega)
      rcases Nat.lt_trichotomy e i with h | h | h
      · omega
      · subst h; rw [h2] at hk; cases hk
      · exact absurd (I.before' D hLe (pair_eff (D.pair h h3) h2 (.inr hk))) hi
  have hcp : (Hs p).c ≤ (Hs i).c := D.cmono hp (by omega)
  have free : ρ (Hs i).c = none := by
    cases hq : ρ (Hs i).c with
    | none => rfl
    | some q =>
      exfalso
      rcases I.dom _ q hq with h | ⟨a, a0, a1, a2, a3⟩
      · omega
      · rcases Nat.lt_trichotomy a i with h | h | h
        · have := D.cmono (show a + 1 ≤ i by omega) (by omega); omega
        · subst h; exact hi a0
        · have := D.cmono (show i + 1 ≤ a by omega) (Nat.le_of_lt (I.lm a a0)); omega
  have hle := Ren.le_ext free (x, N)
  have hcut0 : ∀ c, c ≤ (Hs i).c → (ρ.ext (Hs i).c (x, N)).cut c = ρ.cut c := by
    intro c h
    funext j
    unfold Ren.cut Ren.ext
    by_cases h1 : j < c
    · rw [if_pos h1, if_pos h1, if_neg (by omega)]
    · rw [if_neg h1, if_neg h1]
  have hcut : (ρ.ext (Hs i).c (x, N)).cut ((Hs i).c + 1) = (ρ.cut (Hs i).c).ext (Hs i).c (x, N) := by
    rw [cut_ext (Ren.ext_same _ _ _), hcut0 _ (Nat.le_refl _)]
  have other : ∀ {j}, j ≠ (Hs i).c → (ρ.ext (Hs i).c (x, N)) j = ρ j := fun h => if_neg h
  have hxp : σp x = none := by
    cases hs : σp x with
    | none => rfl
    | some b' => have := I.r.le x b' hs; rw [hx] at this; cases this
  have hx0 : σ0 x = none := by
    cases hs : σ0 x with
    | none => rfl
    | some b' => have := I.le x b' hs; rw [hxp] at this; cases this
  have apart : ∀ {a}, L a → (Hs a).c < (Hs (a + 1)).c → (Hs a).c ≠ (Hs i).c := by
    intro a a0 a2 e
    rcases Nat.lt_trichotomy a i with h | h | h
    · have := D.cmono (show a + 1 ≤ i by omega) (by omega); omega
    · subst h; exact hi a0
    · have := D.cmono (show i + 1 ≤ a by omega) (Nat.le_of_lt (I.lm a a0)); omega
  refine ⟨p, ρ.ext (Hs i).c (x, N), σp.set x ab, I.put D ho hi hL hle (by rw [hc1, hcut]; exact hv) (fun e he hke => ?_) I.pb (fun j q hj => ?_) (fun j q hj => ?_) (by rw [hcut0 _ hcp]; exact I.r.more ab hx) (AS.le_set I.le hx0) ?_ ?_⟩
  · rw [← I.pe e he hke]
    constructor
    · rintro (h | rfl)
      · exact h
      · rw [hke] at hk; cases hk
    · exact .inl
  · by_cases e : j = (Hs i).c
    · exact .inr ⟨i, .inr rfl, hp, by omega, e⟩
    · rw [other e] at hj
      rcases I.dom j q hj with h | ⟨a, a0, a1, a2, a3⟩
      · exact .inl h
      · exact .inr ⟨a, .inl a0, a1, a2, a3⟩
  · by_cases e : j = (Hs i).c
    · omega
    · rw [other e] at hj; exact I.lt j q hj
  · rintro a b' (ha | rfl) hpa hn hca hka
    · obtain ⟨y, M, ab', k1, k2, k3, k4⟩ := I.pend a b' ha hpa hn hca hka
      have hne := apart ha (by rw [new_c hn]; omega)
      have hyx : y ≠ x := by rintro rfl; rw [hxp] at k2; cases k2
      exact ⟨y, M, ab', by rw [other hne]; exact k1, by rw [AS.set_ne _ _ hyx]; exact k2, k3, k4.mono (cut_ren hle _)⟩
    · have : b' = b := by
        rw [hH] at hn
        have h1 : (((Hs a).new b).get (Hs a).c) = (((Hs a).new b').get (Hs a).c) := by rw [hn]
        rw [Hp.get_new hc hc, Hp.get_new hc hc, if_pos rfl, if_pos rfl] at h1
        exact h1.symm
      subst this
      exact ⟨x, N, ab, Ren.ext_same _ _ _, by simp, hx0, by rw [hcut]; exact hb⟩
  · rintro a a' y M M' (ha | rfl) (ha' | rfl) hpa hpa' b1 b2 e1 e2
    · rw [other (apart ha b1)] at e1
      rw [other (apart ha' b2)] at e2
      exact I.pinj a a' y M M' ha ha' hpa hpa' b1 b2 e1 e2
    · exfalso
      rw [other (apart ha b1)] at e1
      rw [Ren.ext_same] at e2
      simp only [Option.some.injEq, Prod.mk.injEq] at e2
      obtain ⟨rfl, _⟩ := e2
      rcases D.calm (I.lm a ha) (fun h3 => by have := (I.pe a (I.lm a ha) h3).1 ha; omega) with h | ⟨b0, h1, h2, h3⟩
      · rw [h] at b1; omega
      · obtain ⟨y', M2, ab', k1, k2, _, _⟩ := I.pend a b0 ha hpa h1 h2 h3
        rw [e1] at k1
        simp only [Option.some.injEq, Prod.mk.injEq] at k1
        rw [← k1.1, hxp] at k2; cases k2
    · exfalso
      rw [other (apart ha' b2)] at e2
      rw [Ren.ext_same] at e1
      simp only [Option.some.injEq, Prod.mk.injEq] at e1
      obtain ⟨rfl, _⟩ := e1
      rcases D.calm (I.lm a' ha') (fun h3 => by have := (I.pe a' (I.lm a' ha') h3).1 ha'; omega) with h | ⟨b0, h1, h2, h3⟩
      · rw [h] at b2; omega
      · obtain ⟨y', M2, ab', k1, k2, _, _⟩ := I.pend a' b0 ha' hpa' h1 h2 h3
        rw [e2] at k1
        simp only [Option.some.injEq, Prod.mk.injEq] at k1
        rw [← k1.1, hxp] at k2; cases k2
    · rfl
theorem DI.go (D : DD P fid rid n call ops Fs Hs Vs vs hes) (I : DI P ops Fs Hs vs ρ0 σ0 L s σ p ρ σp) {i : Nat} {o : Oper} (ho : ops[i]? = some o) (hi : ¬ L i) (hL : ∀ e ∈ o.after.toList, Region.binds .any e = true → L e.on)
    {G0 G : Gh} {a : Act} {w : World} (hle : G0.Le G) (hs : Sim P G n ds s σ a w) {next : Act → World → Prop} (hn : ∀ G' s' σ' a' w', G0.Le G' → Sim P G' n ds s' σ' a' w' → NextI P ops Fs Hs vs ρ0 σ0 L i s' σ' → next a' w') :
    if Region.wanted o (yielded ops.toArray a.tmps) then o.wp P a w next (LQ P n ds Q G0) else next (a.put o.dst undef) w := by
  have hlt : i < ops.length := (List.getElem?_eq_some_iff.1 ho).1
  obtain ⟨o', b, h1, h2, h3, h4, h5, h6, h7, h8⟩ := D.ts i hlt
  rw [ho] at h1
  cases h1
  have hlook : looksB ops i = o.looksAt ops.toArray := by simp [looksB, ho]
  have hX : ∀ x ∈ o.op.operands, XR (ρ.cut (Hs i).c) (Fs i) s x := by
    intro x hx
    cases x with
    | tmp t =>
      refine I.look D ho hi hL ?_
      rw [hlook]
      unfold Oper.looksAt
      refine List.mem_append.2 (.inl ?_)
      rw [List.mem_filterMap]
      exact ⟨.tmp t, by simpa using hx, rfl⟩
    | const v => exact VR.ofV _ v
    | global g => exact .any _
    | func f => exact .fn0 f
  have hG : GX (ρ.cut (Hs i).c) ops.toArray (Fs i) s o := by
    intro j want d hg hd
    refine I.look D ho hi hL ?_
    rw [hlook]
    unfold Oper.looksAt
    refine List.mem_append.2 (.inr ?_)
    rw [hg]
    rw [List.getElem?_toArray] at hd
    simp [hd]
  have hw := wanted_of hs hG h3
  rw [hw]
  have hk := kind_at (P := P) ho
  have hd' := d_lt h2
  cases b with
  | false =>
    obtain ⟨e1, e2⟩ := h5 rfl
    simp only [Bool.false_eq_true, if_false]
    refine hn G _ σ _ w hle (hs.put (.refl G) hs.inv o.dst hd' (.sc _)) ?_
    by_cases h3' : (kinds P ops).getD i 0 = 3
    · obtain ⟨hp, _, hbt⟩ := I.kind3 D ho hi hL h3'
      obtain ⟨σq, g1, g2, g3⟩ := I.advance D hp (by omega) hbt
      exact I.behind D ho hi hL h3' g2 g3 (.refl _) (by rw [e1]; exact skip_ok) (by rw [e2]; exact g1)
    · exact I.calm D ho hi hL h3' e2 (by rw [e1]; exact skip_ok)
  | true =>
    simp only [if_true]
    have he := h4 rfl
    have hok := op_ok (P := P) (n := n) (ds := ds) (Q := Q) o
    unfold EStep at he
    cases hco : compOp P o.op with
    | pur f =>
      rw [hco] at he hok hk
      obtain ⟨q1, q2, q3⟩ := he
      have := XO.sop (n := n) (ds := ds) (Q := Q) (fun Pn => hok _ _ s σ hX (by rw [q1]; exact q2) (fun av σ' => σ' = σ ∧ VR (ρ.cut (Hs i).c) (vs i) av) Pn fun av hv => ⟨rfl, by rw [← q1]; exact hv⟩) h2
      refine this G0 G a w hle hs _ fun G' s' σ' a' w' k1 k2 k3 => hn G' s' σ' a' w' k1 k2 ?_
      obtain ⟨av, rfl, rfl, hv⟩ := k3
      exact I.calm D ho hi hL (by rw [hk]; simp [kindE]) q3 hv
    | val f =>
      rw [hco] at he hok hk
      have hk1 : (kinds P ops).getD i 0 = 1 := hk
      obtain ⟨hid, hck⟩ := h8 hk1
      -- the heap that is found
      have hpm : (p, Hs p) ∈ hes := by
        rcases I.pb with h | ⟨e, e1, e2, e3⟩
        · rw [h]; exact D.zero
        · rw [e1]
          obtain ⟨_, _, _, _, _, _, _, _, q, _⟩ := D.ts e e3
          exact q e2
      have hal : allowed (kinds P ops) (befs ops []) i p = true := by
        unfold allowed
        have key : ∀ m, m ≤ ops.length → alB m (fun e => !Nat.beq ((kinds P ops).getD e 0) 3 || ((!bitB ((befs ops []).getD i 0) e || Nat.blt e p) && (!Nat.blt e p || Nat.blt e i || !bitB ((befs ops []).getD e 0) i))) = true := by
          intro m
          induction m with
          | zero => intro _; rfl
          | succ m ih =>
            intro hm
            show (_ && alB m _) = true
            rw [Bool.and_eq_true]
            refine ⟨?_, ih (by omega)⟩
            simp only [Bool.and_eq_true, Bool.or_eq_true, Bool.not_eq_true', beq_dec, blt_dec, decide_eq_false_iff_not, decide_eq_true_eq]
            by_cases h3' : (kinds P ops).getD m 0 = 3
            · refine .inr ⟨?_, ?_⟩
              · cases hb : bitB ((befs ops []).getD i 0) m with
                | false => exact .inl rfl
                | true => exact .inr ((I.pe m (by omega) h3').1 (I.before D ho hL hb))
              · by_cases hmp : m < p
                · cases hb : bitB ((befs ops []).getD m 0) i with
                  | false => exact .inr rfl
                  | true => exact absurd (I.before' D ((I.pe m (by omega) h3').2 hmp) hb) hi
                · exact .inl (.inl hmp)
            · exact .inl h3'
        have hkl : (kinds P ops).length = ops.length := by simp [kinds]
        rw [hkl]
        exact key _ (Nat.le_refl _)
      have hc := hck (p, Hs p) hpm hal
      -- what is found there
      have hcr : ∀ w', (compOper P fid rid n ops.toArray o).run call (Fs i) (Hs p) (Hs i) (fun F'' H'' w => bif eqv 8 (vs i) w then .norm F'' H'' else .fail 0) ≠ .fail w' := by
        intro w' e
        rw [e] at hc; cases hc
      obtain ⟨_, b', r1, r2, _⟩ := oper_inv rfl hcr
      rw [h3] at r1
      simp only [Option.some.injEq] at r1
      obtain ⟨v', H'', r3, r4⟩ := r2 r1.symm
      have hve : vs i = v' := by
        have : isNorm (bif eqv 8 (vs i) v' then CR.norm (setD o.dst v' (Fs i)) H'' else .fail 0) = true := by rw [← r4]; exact hc
        cases hev : eqv 8 (vs i) v' with
        | true => exact eqv_eq _ _ _ hev
        | false => rw [hev] at this; cases this
      unfold EStep at r3
      rw [hco] at r3
      obtain ⟨q1, q2, _⟩ := r3
      have hH : Hs (i + 1) = Hs i := he.2.2
      have hrb : RB P ρ (Hs p) σ := I.r.rb.mono (cut_le ρ _) I.lt
      have := XO.sop (n := n) (ds := ds) (Q := Q) (fun Pn => hok ρ (Fs i) s σ (Hs p) (fun x hx => (hX x hx).mono (cut_le ρ _)) hrb (by rw [q1]; exact q2) (fun av σ' => σ' = σ ∧ VR ρ (vs i) av) Pn fun av hv => ⟨rfl, by rw [hve, ← q1]; exact hv⟩) h2
      refine this G0 G a w hle hs _ fun G' s' σ' a' w' k1 k2 k3 => hn G' s' σ' a' w' k1 k2 ?_
      obtain ⟨av, rfl, rfl, hv⟩ := k3
      exact I.calm D ho hi hL (by rw [hk1]; simp) hH (VR.cut 8 hid hv)
    | new f =>
      rw [hco] at he hok hk
      have hk2 : (kinds P ops).getD i 0 = 2 := hk
      obtain ⟨b0, mk, q1, q2, q3, q4⟩ := he
      have hfree : (ρ.cut (Hs i).c) (Hs i).c = none := by unfold Ren.cut; rw [if_neg (by omega)]
      have hk' := (hok _ _ s σ b0 mk (Hs i).c hX q1 hfree).2
      have := XO.sop (n := n) (ds := ds) (Q := Q) (fun Pn => hk' (fun av σ' => NextI P ops Fs Hs vs ρ0 σ0 L i (s.put o.dst av) σ') Pn fun x N ab av hx hb hv => I.made D ho hi hL hk2 q4 q2 hx hb (by rw [q3]; exact hv)) h2
      refine this G0 G a w hle hs _ fun G' s' σ' a' w' k1 k2 k3 => hn G' s' σ' a' w' k1 k2 ?_
      obtain ⟨av, rfl, hv⟩ := k3
      exact hv
    | eff f =>
      have hk3 : (kinds P ops).getD i 0 = 3 := by rw [hk, hco]; rfl
      obtain ⟨hp, _, hbt⟩ := I.kind3 D ho hi hL hk3
      obtain ⟨σq, g1, g2, g3⟩ := I.advance D hp (by omega) hbt
      have hes' : EStep P call o (Fs i) (Hs i) (Hs i) (vs i) (Hs (i + 1)) := by
        unfold EStep
        rw [hco]
        rw [hco] at he
        exact he
      have := (estep_ok (n := n) (ds := ds) (Q := Q) D.hcall hes' hX g1 h2).2
      refine this G0 G a w hle hs _ fun G' s' σ' a' w' k1 k2 k3 => hn G' s' σ' a' w' k1 k2 ?_
      obtain ⟨ρ'', av, e1, rfl, e2, e3⟩ := k3
      exact I.behind D ho hi hL hk3 g2 g3 e1 e2 e3
    | bad w' =>
      rw [hco] at he
      exact he.elim
end
end Go.AW.Ev

set_option linter.unusedSimpArgs false
set_option linter.unusedVariables false
namespace Go.AW.Ev
open Go Go.RowKit
variable {P : Program} {n : Nat} {ds : List Deferred} {Q : AQ}
theorem count_set : ∀ {l : List Bool} {i : Nat}, l[i]? = some false → (l.set i true).count false + 1 = l.count false
  | [], i, h => by simp at h
  | b :: l, 0, h => by simp at h; subst h; simp
  | b :: l, i + 1, h => by
    have := count_set (l := l) (i := i) (by simpa using h)
    simp only [List.set_cons_succ, List.count_cons]
    omega
theorem count_none : ∀ {l : List Bool}, l.count false = 0 → ∀ i, i < l.length → l[i]? = some true
  | [], _, i, hi => by simp at hi
  | b :: l, h, i, hi => by
    simp only [List.count_cons] at h
    cases b with
    | false => simp at h
    | true =>
      cases i with
      | zero => rfl
      | succ i => simpa using count_none (l := l) (by simpa using h) i (by simpa using hi)
section
variable {fid rid : Nat} {call : Call} {ops : List Oper} {Fs : Nat → Fr} {Hs Vs : Nat → Hp} {vs : Nat → EV} {hes : List (Nat × Hp)}
variable {ρ0 : Ren} {σ0 : AS}
theorem DI.fin (D : DD P fid rid n call ops Fs Hs Vs vs hes) {L : Nat → Prop} {s : AW.Fr} {σ σp : AS} {p : Nat} {ρ : Ren} (I : DI P ops Fs Hs vs ρ0 σ0 L s σ p ρ σp) (h0 : ∀ j, (Hs 0).c ≤ j → ρ0 j = none) (hall : ∀ i, i < ops.length → L i) :
    ∃ ρ', Ren.le ρ0 ρ' ∧ FR ρ' (Fs ops.length) s ∧ R P ρ' σ0 (Hs ops.length) σ := by
  obtain ⟨σq, g1, g2, _⟩ := I.advance D I.pm (Nat.le_refl _) (fun k k1 k2 => ⟨fun h3 => by have := (I.pe k k2 h3).1 (hall k k2); omega, fun _ => hall k k2⟩)
  refine ⟨ρ.cut (Hs ops.length).c, fun j q hj => ?_, fun t ht => ?_, g1.base g2⟩
  · have h1 : j < (Hs 0).c := by
      rcases Nat.lt_or_ge j (Hs 0).c with h | h
      · exact h
      · rw [h0 j h] at hj; cases hj
    have := D.cmono (Nat.zero_le ops.length) (Nat.le_refl _)
    unfold Ren.cut
    rw [if_pos (by omega)]
    exact I.le0 j q hj
  · rcases D.slot (Nat.le_refl ops.length) ht with ⟨j, k1, k2, k3⟩ | ⟨k1, k2⟩
    · rw [k3]
      have hoj : ops[j]? = some ops[j] := List.getElem?_eq_getElem (by omega)
      have hdj : ops[j].dst = some t := by simpa [dstAt, hoj] using k2
      exact (I.sl j _ t (hall j k1) hoj hdj).mono (cut_mono ρ (D.cmono (by omega) (Nat.le_refl _)))
    · rw [k2]
      exact (I.ini t ht fun i hi => k1 i (I.lm i hi)).mono (cut_mono ρ (D.cmono (Nat.zero_le _) (Nat.le_refl _)))
theorem any_ok (D : DD P fid rid n call ops Fs Hs Vs vs hes) (h0 : ∀ j, (Hs 0).c ≤ j → ρ0 j = none) {G0 : Gh} (hq : ∀ ρ' s' σ', Ren.le ρ0 ρ' → FR ρ' (Fs ops.length) s' → R P ρ' σ0 (Hs ops.length) σ' → Q .normal s' σ') :
    ∀ (f : Nat) (listed : Array Bool) (G : Gh) (s : AW.Fr) (σ : AS) (a : Act) (w : World), listed.size = ops.length → listed.toList.count false ≤ f →
      (∃ p ρ σp, DI P ops Fs Hs vs ρ0 σ0 (fun k => listed.getD k false = true) s σ p ρ σp) → G0.Le G → Sim P G n ds s σ a w → wpAny P .any ops.toArray (LQ P n ds Q G0) f listed a w := by
  have fin : ∀ (listed : Array Bool) (G : Gh) (s : AW.Fr) (σ : AS) (a : Act) (w : World), (∃ p ρ σp, DI P ops Fs Hs vs ρ0 σ0 (fun k => listed.getD k false = true) s σ p ρ σp) → G0.Le G → Sim P G n ds s σ a w → (∀ i, i < ops.length → listed.getD i false = true) → LQ P n ds Q G0 .normal a w := by
    rintro listed G s σ a w ⟨p, ρ, σp, I⟩ hle hs hall
    obtain ⟨ρ', k1, k2, k3⟩ := I.fin D h0 hall
    exact ⟨G, s, σ, hle, hs, hq ρ' s σ k1 k2 k3⟩
  have ready : ∀ {listed : Array Bool}, listed.size = ops.length → Region.ready .any ops.toArray listed = [] → ∀ i, i < ops.length → listed.getD i false = true := by
    intro listed hsz hr i
    induction i using Nat.strongRecOn with
    | _ i ih =>
      intro hi
      cases hli : listed.getD i false with
      | true => rfl
      | false =>
        exfalso
        have : i ∈ Region.ready .any ops.toArray listed := by
          unfold Region.ready
          rw [List.mem_filter]
          refine ⟨by simpa using hi, ?_⟩
          have ho : ops.toArray[i]? = some ops[i] := by rw [List.getElem?_toArray]; exact List.getElem?_eq_getElem hi
          rw [ho]
          have h1 : listed.getD i true = false := by
            rw [Array.getD_eq_getD_getElem?, Array.getElem?_eq_getElem (by omega)] at hli ⊢
            simpa using hli
          rw [h1]
          simp only [Bool.not_false, Option.map_some, Option.getD_some, Bool.true_and]
          rw [Array.all_eq_true']
          intro e he
          rw [Bool.or_eq_true]
          cases hb : Region.binds .any e with
          | false => exact .inl rfl
          | true =>
            have hon := D.edge i ops[i] (List.getElem?_eq_getElem hi) e (by simpa using he) hb
            exact .inr (ih e.on hon (by omega))
        rw [hr] at this; cases this
  intro f
  induction f with
  | zero =>
    intro listed G s σ a w hsz hc hI hle hs
    have hall : ∀ i, i < ops.length → listed.getD i false = true := by
      intro i hi
      have := count_none (by omega : listed.toList.count false = 0) i (by simpa [hsz] using hi)
      rw [Array.getElem?_toList] at this
      rw [Array.getD_eq_getD_getElem?, this]; rfl
    refine ⟨?_, fin listed G s σ a w hI hle hs hall⟩
    cases hr : Region.ready .any ops.toArray listed with
    | nil => rfl
    | cons i r =>
      exfalso
      have hi : i ∈ Region.ready .any ops.toArray listed := by rw [hr]; simp
      unfold Region.ready at hi
      rw [List.mem_filter] at hi
      have hlt : i < ops.length := by simpa using hi.1
      have h1 := hall i hlt
      have h2 : listed.getD i true = true := by
        rw [Array.getD_eq_getD_getElem?, Array.getElem?_eq_getElem (by omega)] at h1 ⊢
        simpa using h1
      rw [h2] at hi
      simp at hi
  | succ f ih =>
    intro listed G s σ a w hsz hc hI hle hs
    refine ⟨fun he => fin listed G s σ a w hI hle hs (ready hsz he), fun i hi => ?_⟩
    unfold Region.ready at hi
    rw [List.mem_filter] at hi
    obtain ⟨hi1, hi2⟩ := hi
    have hlt : i < ops.length := by simpa using hi1
    have ho : ops[i]? = some ops[i] := List.getElem?_eq_getElem hlt
    have hoa : ops.toArray[i]? = some ops[i] := by rw [List.getElem?_toArray]; exact ho
    rw [hoa] at hi2
    simp only [Option.map_some, Option.getD_some, Bool.and_eq_true, Bool.not_eq_true'] at hi2
    obtain ⟨hnl, hed⟩ := hi2
    have hnl' : listed.toList[i]? = some false := by
      rw [Array.getD_eq_getD_getElem?, Array.getElem?_eq_getElem (by omega)] at hnl
      rw [Array.getElem?_toList, Array.getElem?_eq_getElem (by omega)]
      simpa using hnl
    have hnotL : ¬ (listed.getD i false = true) := by
      rw [Array.getD_eq_getD_getElem?, ← Array.getElem?_toList, hnl']; simp
    have hedL : ∀ e ∈ ops[i].after.toList, Region.binds .any e = true → listed.getD e.on false = true := by
      intro e he hb
      rw [Array.all_eq_true'] at hed
      have := hed e (by simpa using he)
      rw [hb] at this
      simpa using this
    obtain ⟨p, ρ, σp, I⟩ := hI
    have := I.go (Q := Q) D ho hnotL hedL hle hs (next := wpAny P .any ops.toArray (LQ P n ds Q G0) f (listed.setIfInBounds i true)) (fun G' s' σ' a' w' k1 k2 k3 => by
      refine ih _ G' s' σ' a' w' (by simpa using hsz) ?_ ?_ k1 k2
      · have hcs := count_set hnl'
        rw [Array.toList_setIfInBounds]
        omega
      · obtain ⟨p', ρ', σp', I'⟩ := k3
        refine ⟨p', ρ', σp', ?_⟩
        have e : (fun k => (listed.setIfInBounds i true).getD k false = true) = (fun k => listed.getD k false = true ∨ k = i) := by
          funext k
          apply propext
          by_cases hk : k = i
          · subst hk
            simp [Array.getD_eq_getD_getElem?, hsz, hlt]
          · have : (listed.setIfInBounds i true).getD k false = listed.getD k false := by
              rw [Array.getD_eq_getD_getElem?, Array.getD_eq_getD_getElem?, Array.getElem?_setIfInBounds_ne (Ne.symm hk)]
            rw [this]
            simp [hk]
        rw [e]
        exact I')
    unfold wpOp
    simp only [hoa]
    by_cases hw : Region.wanted ops[i] (yielded ops.toArray a.tmps) = true
    · rw [if_pos hw] at this ⊢; exact .inl this
    · rw [if_neg hw] at this ⊢; exact this
end
theorem runDraw_ok (hn : n ≤ 512) (hm : P.follows .mixedOrders = true) {fid rid : Nat} {call : Call} (hcall : CallOK P call) {ops : List Oper} {F : Fr} {H : Hp} {r : CR} (h : runDraw P fid rid n call ops F H = r) (hr : ∀ w, r ≠ .fail w) :
    ∃ F' H', r = .norm F' H' ∧ H.c ≤ H'.c ∧ ∀ (ρ : Ren) (σ0 : AS) (s : AW.Fr) (σ : AS), FR ρ F s → R P ρ σ0 H σ → (∀ ρ' s' σ', Ren.le ρ ρ' → FR ρ' F' s' → R P ρ' σ0 H' σ' → Q .normal s' σ') → AWp P n ds (.region rid ops.toArray true) Q s σ := by
  unfold runDraw at h
  simp only at h
  cases hok : okDraw ops (befs ops []) (kinds P ops) with
  | false => rw [hok] at h; exact absurd h.symm (hr _)
  | true =>
    rw [hok] at h
    simp only [cond_true] at h
    obtain ⟨Fs, Hs, Vs, vs, hes', e1, e2, _, e3, e4, _, e6⟩ := runDr_inv ops 0 F H H [(0, H)] [] r (by simp) (Nat.zero_le _) h hr
    have D : DD P fid rid n call ops Fs Hs Vs vs hes' := ⟨hn, hcall, hok, fun k hk => e6 k (Nat.zero_le _) hk, by rw [e2]; exact e4 _ (by simp)⟩
    have hcm := D.cmono (Nat.zero_le ops.length) (Nat.le_refl _)
    rw [e2] at hcm
    refine ⟨_, _, e3, hcm, fun ρ σ0 s σ hF hR hq => fun G0 G a w h1 h2 => wp_region_any hm ?_⟩
    have h0 : ∀ j, (Hs 0).c ≤ j → ρ j = none := by rw [e2]; exact hR.fresh
    have hs' : Sim P G n ds s σ a { w with drawn := w.drawn + 1 } := ⟨h2.inv.drew, h2.size, h2.ds, h2.rep⟩
    refine any_ok (ρ0 := ρ) (σ0 := σ0) D h0 hq _ _ G s σ a _ (by simp) (by simp) ⟨0, ρ, σ0, ?_⟩ h1 hs'
    have hcut : ρ.cut (Hs 0).c = ρ := cut_fresh h0
    have none : ∀ {k : Nat}, ¬ ((Array.replicate ops.toArray.size false).getD k false = true) := by
      intro k
      rw [Array.getD_eq_getD_getElem?]
      by_cases hk : k < ops.toArray.size
      · rw [Array.getElem?_replicate, if_pos hk]; simp
      · rw [Array.getElem?_replicate, if_neg hk]; simp
    refine ⟨fun i hi => absurd hi none, fun i hi => absurd hi none, fun e he hk => ⟨fun h => absurd h none, fun h => by omega⟩, .inl rfl, fun j q hj => .inl ?_, hR.rb.lt, .refl ρ, fun i o t hi => absurd hi none, fun t ht _ => ?_, ?_, AS.le_refl _, fun a b ha => absurd ha none, fun a a' x N N' ha => absurd ha none⟩
    · rcases Nat.lt_or_ge j (Hs 0).c with h | h
      · exact h
      · rw [h0 j h] at hj; cases hj
    · rw [hcut, e1]; exact hF t ht
    · rw [hcut, e2]; exact hR
end Go.AW.Ev

set_option linter.unusedSimpArgs false
set_option linter.unusedVariables false
namespace Go.AW.Ev
open Go Go.RowKit
variable {P : Program} {n : Nat}
/-! ## code -/
def CRc (H : Hp) : CR → Prop
  | .fail _ => False
  | .norm _ H' => H.c ≤ H'.c
  | .exit _ _ H' => H.c ≤ H'.c
  | .ret _ H' => H.c ≤ H'.c
def CRQ (P : Program) (ρ : Ren) (σ0 : AS) (r : CR) (Q : AQ) : Prop :=
  match r with
  | .fail _ => False
  | .norm F H => ∀ ρ' s σ, Ren.le ρ ρ' → FR ρ' F s → R P ρ' σ0 H σ → Q .normal s σ
  | .exit id F H => ∀ ρ' s σ, Ren.le ρ ρ' → FR ρ' F s → R P ρ' σ0 H σ → Q (.exit id) s σ
  | .ret F H => ∀ ρ' s σ, Ren.le ρ ρ' → FR ρ' F s → R P ρ' σ0 H σ → Q .ret s σ
theorem CRQ.mono {ρ ρ' : Ren} {σ0 : AS} {r : CR} {Q : AQ} (h : CRQ P ρ σ0 r Q) (hle : Ren.le ρ ρ') : CRQ P ρ' σ0 r Q := by
  cases r with
  | fail w => exact h
  | norm F H => exact fun ρ'' s σ h1 h2 h3 => h ρ'' s σ (hle.trans h1) h2 h3
  | exit id F H => exact fun ρ'' s σ h1 h2 h3 => h ρ'' s σ (hle.trans h1) h2 h3
  | ret F H => exact fun ρ'' s σ h1 h2 h3 => h ρ'' s σ (hle.trans h1) h2 h3
theorem CRQ.thn {ρ : Ren} {σ0 : AS} {r : CR} {K : AW.Fr → AS → Prop} {Q : AQ} (h : CRQ P ρ σ0 r Q) (hn : ∀ F H, r ≠ .norm F H) : CRQ P ρ σ0 r (thenQ K Q) := by
  cases r with
  | fail w => exact h
  | norm F H => exact absurd rfl (hn F H)
  | exit id F H => exact h
  | ret F H => exact h
theorem FrWk.refl' (s : AW.Fr) : FrWk P s s := fun _ _ _ h => h
theorem seq_rest {r1 r : CR} {k : Fr → Hp → CR} (h : (match r1 with | .norm F H => k F H | r => r) = r) (hr : ∀ w, r ≠ .fail w) : (∃ F H, r1 = .norm F H ∧ k F H = r) ∨ (r1 = r ∧ ∀ F H, r ≠ .norm F H) := by
  cases r1 with
  | norm F H => exact .inl ⟨F, H, rfl, h⟩
  | fail w => exact absurd h.symm (hr w)
  | exit id F H => exact .inr ⟨h, fun F' H' e => by rw [← h] at e; cases e⟩
  | ret F H => exact .inr ⟨h, fun F' H' e => by rw [← h] at e; cases e⟩
theorem runC_ok (hn : n ≤ 512) (hm : P.follows .mixedOrders = true) {fid : Nat} {call : Call} (hcall : CallOK P call) : ∀ (fuel : Nat) (c : Code) (F : Fr) (H : Hp) (r : CR), runC P fid n call fuel c F H = r → (∀ w, r ≠ .fail w) →
    CRc H r ∧ ∀ (ρ : Ren) (σ0 : AS) (s : AW.Fr) (σ : AS) (ds : List Deferred) (Q : AQ), FR ρ F s → R P ρ σ0 H σ → CRQ P ρ σ0 r Q → AWp P n ds c Q s σ := by
  intro fuel
  induction fuel using Nat.strongRecOn with
  | _ fuel ih =>
    intro c F H r h hr
    cases fuel with
    | zero => exact absurd h.symm (hr _)
    | succ m =>
      cases c with
      | skip =>
        have h' : CR.norm F H = r := h
        subst h'
        exact ⟨Nat.le_refl _, fun ρ σ0 s σ ds Q hF hR hq => AWp.skip (hq ρ s σ (.refl ρ) hF hR)⟩
      | label l =>
        have h' : CR.norm F H = r := h
        subst h'
        exact ⟨Nat.le_refl _, fun ρ σ0 s σ ds Q hF hR hq => AWp.label (hq ρ s σ (.refl ρ) hF hR)⟩
      | ret =>
        have h' : CR.ret F H = r := h
        subst h'
        exact ⟨Nat.le_refl _, fun ρ σ0 s σ ds Q hF hR hq => AWp.ret (hq ρ s σ (.refl ρ) hF hR)⟩
      | exit id =>
        have h' : CR.exit id F H = r := h
        subst h'
        exact ⟨Nat.le_refl _, fun ρ σ0 s σ ds Q hF hR hq => AWp.exit (hq ρ s σ (.refl ρ) hF hR)⟩
      | region id ops draw =>
        cases draw with
        | true =>
          have h' : runDraw P fid id n call ops.toList F H = r := h
          obtain ⟨F', H', e1, e2, e3⟩ := runDraw_ok (ds := []) (Q := fun _ _ _ => True) hn hm hcall h' hr
          subst e1
          refine ⟨e2, fun ρ σ0 s σ ds Q hF hR hq => ?_⟩
          obtain ⟨F'', H'', f1, _, f3⟩ := runDraw_ok (ds := ds) (Q := Q) hn hm hcall h' hr
          cases f1
          have := f3 ρ σ0 s σ hF hR (fun ρ' s' σ' h1 h2 h3 => hq ρ' s' σ' h1 h2 h3)
          rwa [Array.toArray_toList] at this
        | false =>
          have h' : runOps P fid id n call ops ops.toList F H = r := h
          obtain ⟨F', H', e1, e2, e3⟩ := runOps_ok (ds := []) (Q := fun _ _ _ => True) hn hcall (ops := ops) ops.toList F H r h' hr
          subst e1
          refine ⟨e2, fun ρ σ0 s σ ds Q hF hR hq => fun G0 G a w h1 h2 => ?_⟩
          obtain ⟨F'', H'', f1, _, f3⟩ := runOps_ok (ds := ds) (Q := Q) hn hcall (ops := ops) ops.toList F H _ h' hr
          cases f1
          have := f3 ρ σ0 G0 G s σ a w hF hR h1 h2 (fun ρ' s' σ' h1 h2 h3 => hq ρ' s' σ' h1 h2 h3)
          have h4 := wp_region_lit (P := P) (Q := LQ P n ds Q G0) (id := id) (l := ops.toList) (a := a) (w := w) (by rw [Array.toArray_toList]; exact this)
          rwa [Array.toArray_toList] at h4
      | seq x y =>
        have h' : (match runC P fid n call m x F H with | .norm F H => runC P fid n call m y F H | r => r) = r := h
        rcases seq_rest h' hr with ⟨F1, H1, e1, e2⟩ | ⟨e1, e2⟩
        · obtain ⟨a1, a2⟩ := ih m (by omega) x F H _ e1 (by simp)
          obtain ⟨b1, b2⟩ := ih m (by omega) y F1 H1 r e2 hr
          refine ⟨?_, fun ρ σ0 s σ ds Q hF hR hq => AWp.seq (a2 ρ σ0 s σ ds _ hF hR fun ρ' s' σ' h1 h2 h3 => b2 ρ' σ0 s' σ' ds Q h2 h3 (hq.mono h1))⟩
          have a1' : H.c ≤ H1.c := a1
          cases r with
          | fail w => exact absurd rfl (hr w)
          | norm F' H' => exact Nat.le_trans a1' b1
          | exit id F' H' => exact Nat.le_trans a1' b1
          | ret F' H' => exact Nat.le_trans a1' b1
        · obtain ⟨a1, a2⟩ := ih m (by omega) x F H r e1 hr
          exact ⟨a1, fun ρ σ0 s σ ds Q hF hR hq => AWp.seq (a2 ρ σ0 s σ ds _ hF hR (hq.thn e2))⟩
      | cond c x y =>
        have h' : (match (opd c).get F with | .bool t => bif t then runC P fid n call m x F H else runC P fid n call m y F H | _ => .fail (wh fid 0 201)) = r := h
        split at h'
        · rename_i t hv
          have hcx : ∀ {ρ : Ren} {s : AW.Fr}, FR ρ F s → ev s c = .sc (.bool t) := by
            intro ρ s hF
            have := hF.op c
            unfold XR at this
            rw [hv] at this
            generalize ev s c = ac at this
            cases this; rfl
          cases t with
          | true =>
            obtain ⟨a1, a2⟩ := ih m (by omega) x F H r h' hr
            exact ⟨a1, fun ρ σ0 s σ ds Q hF hR hq => AWp.cond (hcx hF) (fun _ => a2 ρ σ0 s σ ds Q hF hR hq) (fun e => by cases e)⟩
          | false =>
            obtain ⟨a1, a2⟩ := ih m (by omega) y F H r h' hr
            exact ⟨a1, fun ρ σ0 s σ ds Q hF hR hq => AWp.cond (hcx hF) (fun e => by cases e) (fun _ => a2 ρ σ0 s σ ds Q hF hR hq)⟩
        · exact absurd h'.symm (hr _)
      | block id x =>
        have h' : (match runC P fid n call m x F H with | .exit j F H => bif Nat.beq j id then .norm F H else .exit j F H | r => r) = r := h
        cases hx : runC P fid n call m x F H with
        | fail w => rw [hx] at h'; exact absurd h'.symm (hr _)
        | norm F1 H1 =>
          rw [hx] at h'
          simp only at h'
          subst h'
          obtain ⟨a1, a2⟩ := ih m (by omega) x F H _ hx (by simp)
          exact ⟨a1, fun ρ σ0 s σ ds Q hF hR hq => AWp.block (a2 ρ σ0 s σ ds _ hF hR fun ρ' s' σ' h1 h2 h3 => hq ρ' s' σ' h1 h2 h3)⟩
        | ret F1 H1 =>
          rw [hx] at h'
          simp only at h'
          subst h'
          obtain ⟨a1, a2⟩ := ih m (by omega) x F H _ hx (by simp)
          exact ⟨a1, fun ρ σ0 s σ ds Q hF hR hq => AWp.block (a2 ρ σ0 s σ ds _ hF hR fun ρ' s' σ' h1 h2 h3 => hq ρ' s' σ' h1 h2 h3)⟩
        | exit j F1 H1 =>
          rw [hx] at h'
          simp only [beq_dec] at h'
          obtain ⟨a1, a2⟩ := ih m (by omega) x F H _ hx (by simp)
          by_cases hj : j = id
          · simp only [hj, decide_true, cond_true] at h'
            subst h'
            exact ⟨a1, fun ρ σ0 s σ ds Q hF hR hq => AWp.block (a2 ρ σ0 s σ ds _ hF hR fun ρ' s' σ' h1 h2 h3 => by simp only [inBlockQ_e, if_pos hj]; exact hq ρ' s' σ' h1 h2 h3)⟩
          · simp only [hj, decide_false, cond_false] at h'
            subst h'
            exact ⟨a1, fun ρ σ0 s σ ds Q hF hR hq => AWp.block (a2 ρ σ0 s σ ds _ hF hR fun ρ' s' σ' h1 h2 h3 => by simp only [inBlockQ_e, if_neg hj]; exact hq ρ' s' σ' h1 h2 h3)⟩
      | loop x =>
        refine ⟨?_, fun ρ σ0 s σ ds Q hF hR hq => ?_⟩
        · have h' : (match runC P fid n call m x F H with | .norm F H => runC P fid n call m (.loop x) F H | r => r) = r := h
          rcases seq_rest h' hr with ⟨F1, H1, e1, e2⟩ | ⟨e1, e2⟩
          · have a1 : H.c ≤ H1.c := (ih m (by omega) x F H _ e1 (by simp)).1
            have b1 := (ih m (by omega) (.loop x) F1 H1 r e2 hr).1
            cases r with
            | fail w => exact absurd rfl (hr w)
            | norm F' H' => exact Nat.le_trans a1 b1
            | exit id F' H' => exact Nat.le_trans a1 b1
            | ret F' H' => exact Nat.le_trans a1 b1
          · exact (ih m (by omega) x F H r e1 hr).1
        · refine AWp.loop (I := fun k s' σ' => k ≤ m + 1 ∧ ∃ F' H' ρ', Ren.le ρ ρ' ∧ FR ρ' F' s' ∧ R P ρ' σ0 H' σ' ∧ runC P fid n call k (.loop x) F' H' = r) (k0 := m + 1) ⟨Nat.le_refl _, F, H, ρ, .refl ρ, hF, hR, h⟩ (FrWk.refl' s) (AS.le_refl σ) ?_
          rintro k s' σ' ⟨hk, F', H', ρ', q1, q2, q3, q4⟩
          cases k with
          | zero => exact absurd q4.symm (hr _)
          | succ k =>
            have h' : (match runC P fid n call k x F' H' with | .norm F H => runC P fid n call k (.loop x) F H | r => r) = r := q4
            rcases seq_rest h' hr with ⟨F1, H1, e1, e2⟩ | ⟨e1, e2⟩
            · exact (ih k (by omega) x F' H' _ e1 (by simp)).2 ρ' σ0 s' σ' ds _ q2 q3 fun ρ'' s'' σ'' g1 g2 g3 => ⟨k, s'', σ'', Nat.lt_succ_self k, FrWk.refl' s'', AS.le_refl σ'', by omega, F1, H1, ρ'', q1.trans g1, g2, g3, e2⟩
            · exact (ih k (by omega) x F' H' r e1 hr).2 ρ' σ0 s' σ' ds _ q2 q3 ((hq.mono q1).thn e2)
      | _ => exact absurd h.symm (hr _)
/-! ## functions -/
theorem putArgs_get : ∀ (args : List EV) (k : Nat) (F : Fr) (t : Nat), k + args.length ≤ 512 → t < 512 → T3.get (p3 t) (putArgs args k F) = if k ≤ t ∧ t < k + args.length then args.getD (t - k) .any else T3.get (p3 t) F
  | [], k, F, t, _, _ => by simp only [putArgs, List.length_nil]; rw [if_neg (by omega)]
  | v :: r, k, F, t, h, ht => by
    simp only [List.length_cons] at h ⊢
    show T3.get (p3 t) (putArgs r (k + 1) (T3.set (p3 k) v F)) = _
    rw [putArgs_get r (k + 1) _ t (by omega) ht, get_put ht (by omega)]
    by_cases h1 : k + 1 ≤ t ∧ t < k + 1 + r.length
    · rw [if_pos h1, if_pos (by omega), show t - k = (t - (k + 1)) + 1 from by omega]; rfl
    · rw [if_neg h1]
      by_cases h2 : t = k
      · subst h2; rw [if_pos rfl, if_pos (by omega)]; simp
      · rw [if_neg h2, if_neg (by omega)]
theorem fr0_get (t : Nat) : T3.get (p3 t) fr0 = .any := by
  unfold fr0 T3.all T3.get
  rw [N8.get_all, N8.get_all, N8.get_all]
theorem args_ok {ρ : Ren} {args : List EV} {avs : List AV} (h : VL ρ args avs) (hl : args.length ≤ 512) : FR ρ (putArgs args 0 fr0) (frOf avs) := by
  intro t ht
  rw [putArgs_get args 0 fr0 t (by omega) ht]
  by_cases h1 : 0 ≤ t ∧ t < 0 + args.length
  · rw [if_pos h1]; exact h.get t
  · rw [if_neg h1, fr0_get]; exact .any _
theorem resE_ok {ρ : Ren} {F : Fr} {H : Hp} {s : AW.Fr} {σ : AS} (hF : FR ρ F s) (hb : RB P ρ H σ) : ∀ {rs : List ResultVar} {vs : List EV} {K : List AV → Prop}, resE rs P F H = some vs → (∀ avs, VL ρ vs avs → K avs) → resAV rs P s σ K
  | [], vs, K, h, hk => by
    simp only [resE, Option.some.injEq] at h
    subst h
    exact hk [] .nil
  | .tmp t :: rs, vs, K, h, hk => by
    simp only [resE, Option.map_eq_some_iff] at h
    obtain ⟨vs', h1, rfl⟩ := h
    show resAV rs P s σ fun vs => K (s t :: vs)
    exact resE_ok hF hb h1 fun avs ha => hk _ (.cons (hF.op (.tmp t)) ha)
  | .cell a t :: rs, vs, K, h, hk => by
    simp only [resE] at h
    have hl : eLoad (lkT P t) ((opd (.tmp a)).get F) H ≠ .any := by
      intro e; rw [e] at h; cases h
    have h' : (resE rs P F H).map (eLoad (lkT P t) ((opd (.tmp a)).get F) H :: ·) = some vs := by
      cases hv : eLoad (lkT P t) ((opd (.tmp a)).get F) H <;> rw [hv] at h hl <;> first | exact absurd rfl hl | exact h
    rw [Option.map_eq_some_iff] at h'
    obtain ⟨vs', h1, rfl⟩ := h'
    exact load_ok (K := fun v => resAV rs P s σ fun vs => K (v :: vs)) (hF.op (.tmp a)) hb hl fun av hv => resE_ok hF hb h1 fun avs ha => hk _ (.cons hv ha)
theorem pack_ok {ρ : Ren} {vs : List EV} {avs : List AV} (h : VL ρ vs avs) : VR ρ (packE vs) (packAV avs) := by
  cases h with
  | nil => exact VR.tup' .nil
  | cons h t =>
    cases t with
    | nil => exact h
    | cons h2 t2 => exact VR.tup' (.cons h (.cons h2 t2))
theorem resR_ok {rs : List ResultVar} {F : Fr} {H H' : Hp} {w : Nat} {v : EV} (h : resR rs P F H w = .ok v H') : H' = H ∧ ∀ {ρ : Ren} {s : AW.Fr} {σ : AS} {K : AV → Prop}, FR ρ F s → RB P ρ H σ → (∀ av, VR ρ v av → K av) → resAV rs P s σ fun vs => K (packAV vs) := by
  unfold resR at h
  cases hr : resE rs P F H with
  | none => rw [hr] at h; cases h
  | some vs =>
    rw [hr] at h
    simp only [Res.ok.injEq] at h
    obtain ⟨rfl, rfl⟩ := h
    exact ⟨rfl, fun hF hb hk => resE_ok hF hb hr fun avs ha => hk _ (pack_ok ha)⟩
def OrcOK (P : Program) (orc : Orc) : Prop := ∀ f o, orc f = some o → ∀ args H v H', o args H = .ok v H' → H.c ≤ H'.c ∧ ∀ ρ σ0 σ avs, R P ρ σ0 H σ → VL ρ args avs →
    ACalls P f avs σ (fun r σ' => ∃ ρ', Ren.le ρ ρ' ∧ VR ρ' v r ∧ R P ρ' σ0 H' σ') No
theorem hasBody_inv {f : FuncId} {fn : Func} (h : hasBody P f = true) (hf : P.funcs[f]? = some fn) : (fn.name == "runtime.NumGoroutine") = false := by
  unfold hasBody at h
  rw [hf] at h
  simp only [Bool.and_eq_true, Bool.not_eq_true'] at h
  exact h.2
def RQ (P : Program) (ρ : Ren) (σ0 : AS) (v : EV) (H' : Hp) (r : AV) (σ' : AS) : Prop := ∃ ρ', Ren.le ρ ρ' ∧ VR ρ' v r ∧ R P ρ' σ0 H' σ'
theorem runOps_s (hn : n ≤ 512) {ds : List Deferred} {Q : AQ} {fid rid : Nat} {call : Call} (hcall : CallOK P call) {ops : Array Oper} : ∀ (l : List Oper) (F : Fr) (H : Hp) (r : CR), noGuards l = true → runOps P fid rid n call ops l F H = r → (∀ w, r ≠ .fail w) →
    ∃ F' H', r = .norm F' H' ∧ H.c ≤ H'.c ∧ ∀ (ρ : Ren) (σ0 : AS) (s : AW.Fr) (σ : AS), FR ρ F s → R P ρ σ0 H σ → (∀ ρ' s' σ', Ren.le ρ ρ' → FR ρ' F' s' → R P ρ' σ0 H' σ' → Q .normal s' σ') → sOps P n ds ops Q l s σ := by
  intro l
  induction l with
  | nil => intro F H r _ h hr; exact ⟨F, H, h.symm, Nat.le_refl _, fun ρ σ0 s σ hF hR hq => hq ρ s σ (.refl ρ) hF hR⟩
  | cons o l ih =>
    intro F H r hg h hr
    simp only [noGuards, Bool.and_eq_true] at hg
    have hog : o.guard = none := by
      cases hgo : o.guard with
      | none => rfl
      | some q => rw [hgo] at hg; cases hg.1
    obtain ⟨hd, b, hgr, h1, h2⟩ := oper_inv (show (compOper P fid rid n ops o).run call F H H _ = r from h) hr
    have hb : b = true := by
      unfold GRun at hgr
      rw [hog] at hgr
      simpa using hgr.symm
    obtain ⟨v, H1, he, hk⟩ := h1 hb
    obtain ⟨F', H', e1, e2, e3⟩ := ih _ _ r hg.2 hk.symm hr
    refine ⟨F', H', e1, Nat.le_trans (estep_c hcall he) e2, fun ρ σ0 s σ hF hR hq => .inl ⟨hog, ?_⟩⟩
    refine sop_mono (estep_ok hcall he (fun x _ => hF.op x) hR hd).2 fun s' σ' ⟨ρ', av, g1, e, g2, g3⟩ => ?_
    subst e
    exact e3 ρ' σ0 _ σ' ((hF.mono g1).put g2 o.dst fun t ht => Nat.lt_of_lt_of_le (d_lt hd t ht) hn) g3 fun ρ'' s'' σ'' q1 q2 q3 => hq ρ'' s'' σ'' (g1.trans q1) q2 q3
theorem bif_some {α : Type} {b : Bool} {x : Option α} {v : α} (h : (bif b then x else none) = some v) : b = true ∧ x = some v := by
  cases b with
  | false => cases h
  | true => exact ⟨rfl, h⟩
theorem runDef_ok (hm : P.follows .mixedOrders = true) {call : Call} (hcall : CallOK P call) {m : Nat} {g : FuncId} {caps : List EV} {H H' : Hp} (h : runDef P call m g caps H = some H') :
    H.c ≤ H'.c ∧ ∀ (ρ : Ren) (σ0 σ : AS) (avs : List AV) (K : AS → Prop), VL ρ caps avs → R P ρ σ0 H σ → (∀ ρ' σ', Ren.le ρ ρ' → R P ρ' σ0 H' σ' → K σ') → DCalls P g avs σ none K := by
  unfold runDef at h
  split at h
  · rename_i gn hgn
    split at h
    · rename_i rid ops draw y hb
      split at h
      · rename_i d as ats ty pos af l hops
        have hh := bif_some h
        clear h
        obtain ⟨hc, h⟩ := hh
        simp only [Bool.and_eq_true, Bool.not_eq_true', blt_dec, ble_dec, decide_eq_true_eq] at hc
        obtain ⟨⟨⟨⟨⟨⟨⟨c1, c2⟩, c3⟩, c4⟩, c5⟩, c6⟩, c7⟩, c8⟩ := hc
        have has : as = #[] := by simpa using c2
        subst has c1
        have hops' : ops = ((⟨some d, .call ⟨.builtin .recover, #[], ats⟩, ty, pos, af, none⟩ : Oper) :: l).toArray := by rw [← hops, Array.toArray_toList]
        split at h
        · rename_i F1 H1 hr1
          obtain ⟨F1', H1', e1, e2, e3⟩ := runOps_s (n := gn.ntmps) (ds := []) (Q := fun _ _ _ => True) c5 hcall (ops := ops) l _ H _ c7 hr1 (by simp)
          cases e1
          have key : ∀ {r : CR}, runC P g gn.ntmps call m y F1 H1 = r → (∀ w, r ≠ .fail w) → ∀ F2, (r = .norm F2 H' ∨ r = .ret F2 H') →
              H.c ≤ H'.c ∧ ∀ (ρ : Ren) (σ0 σ : AS) (avs : List AV) (K : AS → Prop), VL ρ caps avs → R P ρ σ0 H σ → (∀ ρ' σ', Ren.le ρ ρ' → R P ρ' σ0 H' σ' → K σ') → DCalls P g avs σ none K := by
            intro r hr2 hrf F2 hrr
            obtain ⟨a1, a2⟩ := runC_ok c5 hm hcall m y F1 H1 r hr2 hrf
            refine ⟨?_, fun ρ σ0 σ avs K hv hR hk => ?_⟩
            · rcases hrr with rfl | rfl
              · exact Nat.le_trans e2 a1
              · exact Nat.le_trans e2 a1
            · refine DCalls.of hgn (by rw [hb, hops']) (by simpa using c3) (by rw [← hv.len]; exact c6) c4 ?_
              obtain ⟨F1'', H1'', f1, _, f3⟩ := runOps_s (n := gn.ntmps) (ds := []) (Q := thenQ (AWp P gn.ntmps [] y (endQ K)) (endQ K)) c5 hcall (ops := ops) l _ H _ c7 hr1 (by simp)
              cases f1
              rw [← hops']
              refine f3 ρ σ0 _ σ ?_ hR fun ρ' s' σ' g1 g2 g3 => ?_
              · have := (args_ok hv (by omega)).put (v := .sc .nilIface) (a := .sc .nilIface) (.sc _) (some d) (fun t ht => by cases ht; omega)
                exact this
              · refine a2 ρ' σ0 s' σ' [] (endQ K) g2 g3 ?_
                rcases hrr with rfl | rfl
                · exact fun ρ'' s'' σ'' q1 q2 q3 => hk ρ'' σ'' (g1.trans q1) q3
                · exact fun ρ'' s'' σ'' q1 q2 q3 => hk ρ'' σ'' (g1.trans q1) q3
          split at h
          · rename_i F2 H2 hr2
            cases h
            exact key hr2 (by simp) F2 (.inl rfl)
          · rename_i F2 H2 hr2
            cases h
            exact key hr2 (by simp) F2 (.inr rfl)
          · cases h
        · cases h
      · cases h
    · cases h
  · cases h
theorem isDef_inv {c : Code} {f : FuncId} {cap : Array Operand} {d : Nat} (h : isDef c = some (f, cap, d)) : ∃ id ty1 p1 a1 ats ty2 p2 a2, c = .region id [(⟨some d, .makeFunc (.func f) #[] cap, ty1, p1, a1, none⟩ : Oper), ⟨none, .defer ⟨.value (.tmp d), #[], ats⟩, ty2, p2, a2, none⟩].toArray false := by
  cases c <;> first | (cases h; done) | skip
  rename_i id ops draw
  simp only [isDef] at h
  cases draw with
  | true => cases h
  | false =>
    simp only [cond_false] at h
    split at h
    · rename_i d1 f1 first cap1 ty1 p1 a1 d2 args ats ty2 p2 a2 hops
      obtain ⟨hc, h⟩ := bif_some h
      simp only [Option.some.injEq, Prod.mk.injEq] at h
      obtain ⟨rfl, rfl, rfl⟩ := h
      simp only [Bool.and_eq_true, beq_dec, decide_eq_true_eq] at hc
      obtain ⟨⟨rfl, c2⟩, c3⟩ := hc
      have e1 : first = #[] := by simpa using c2
      have e2 : args = #[] := by simpa using c3
      subst e1 e2
      exact ⟨id, ty1, p1, a1, ats, ty2, p2, a2, by rw [← hops, Array.toArray_toList]⟩
    · cases h
theorem runD_ok (hm : P.follows .mixedOrders = true) {fn : Func} (hn : fn.ntmps ≤ 512) {fid : Nat} {call : Call} (hcall : CallOK P call) : ∀ (fuel : Nat) (c : Code) (F : Fr) (H : Hp) (v : EV) (H' : Hp), runD P fid fn.ntmps call fn.results.toList fuel c F H = .ok v H' →
    H.c ≤ H'.c ∧ ∀ (ρ0 ρ : Ren) (σ0 : AS) (s : AW.Fr) (σ : AS) (G1 : Gh), Ren.le ρ0 ρ → FR ρ F s → R P ρ σ0 H σ → AWpD P fn c (RQ P ρ0 σ0 v H') No G1 s σ := by
  intro fuel
  induction fuel with
  | zero => intro c F H v H' h; cases h
  | succ m ih =>
    intro c F H v H' h
    cases c <;> first | (cases h; done) | skip
    rename_i a b
    simp only [runD] at h
    cases hdf : isDef a with
    | some q =>
      obtain ⟨f, cap, d⟩ := q
      rw [hdf] at h
      simp only at h
      obtain ⟨hc, h⟩ := bif_ok h
      simp only [Bool.and_eq_true, blt_dec, decide_eq_true_eq] at hc
      obtain ⟨c1, c2⟩ := hc
      obtain ⟨id, ty1, p1, a1, ats, ty2, p2, a2, rfl⟩ := isDef_inv hdf
      have key : ∀ {r : CR} {F1 : Fr} {H1 : Hp} {w1 w2 : Nat}, runC P fid fn.ntmps call m b (T3.set (p3 d) (.fn f [] (opds cap.toList F)) F) H = r → (r = .norm F1 H1 ∨ r = .ret F1 H1) →
          (match runDef P call m f (opds cap.toList F) H1 with | some H'' => resR fn.results.toList P F1 H'' w1 | none => Res.fail w2) = .ok v H' →
          H.c ≤ H'.c ∧ ∀ (ρ0 ρ : Ren) (σ0 : AS) (s : AW.Fr) (σ : AS) (G1 : Gh), Ren.le ρ0 ρ → FR ρ F s → R P ρ σ0 H σ → AWpD P fn (.seq (.region id [(⟨some d, .makeFunc (.func f) #[] cap, ty1, p1, a1, none⟩ : Oper), ⟨none, .defer ⟨.value (.tmp d), #[], ats⟩, ty2, p2, a2, none⟩].toArray false) b) (RQ P ρ0 σ0 v H') No G1 s σ := by
        intro r F1 H1 w1 w2 hr hrr hres
        have hrf : ∀ w, r ≠ .fail w := by rcases hrr with rfl | rfl <;> simp
        obtain ⟨k1, k2⟩ := runC_ok hn hm hcall m b _ H r hr hrf
        cases hrd : runDef P call m f (opds cap.toList F) H1 with
        | none => rw [hrd] at hres; cases hres
        | some H2 =>
          rw [hrd] at hres
          simp only at hres
          obtain ⟨d1, d2⟩ := runDef_ok hm hcall hrd
          obtain ⟨rfl, r2⟩ := resR_ok hres
          refine ⟨?_, fun ρ0 ρ σ0 s σ G1 hle hF hR => AWpD.defer c1 c2 fun D => ?_⟩
          · rcases hrr with rfl | rfl
            · exact Nat.le_trans k1 d1
            · exact Nat.le_trans k1 d1
          · have hcaps : VL ρ (opds cap.toList F) (cap.toList.map (ev s)) := VL.opds fun x _ => hF.op x
            have fin : ∀ ρ' s' σ', Ren.le ρ ρ' → FR ρ' F1 s' → R P ρ' σ0 H1 σ' → DCalls P f (cap.toList.map (ev s)) σ' none fun σ'' => resAV fn.results.toList P s' σ'' fun vs => Ends P (RQ P ρ0 σ0 v H') σ'' (packAV vs) := by
              intro ρ' s' σ' g1 g2 g3
              refine d2 ρ' σ0 σ' _ _ (hcaps.mono g1) g3 fun ρ'' σ'' q1 q2 => ?_
              exact r2 (g2.mono q1) q2.rb fun av hav => ⟨av, σ'', Wk.refl _, AS.le_refl _, ρ'', hle.trans (g1.trans q1), hav, q2⟩
            refine k2 ρ σ0 _ σ [D] _ ?_ hR ?_
            · exact hF.put (VR.fn' .nil hcaps) (some d) (fun t ht => by cases ht; omega)
            · rcases hrr with rfl | rfl
              · exact fun ρ' s' σ' g1 g2 g3 => fin ρ' s' σ' g1 g2 g3
              · exact fun ρ' s' σ' g1 g2 g3 => fin ρ' s' σ' g1 g2 g3
      split at h
      · rename_i F1 H1 hr; exact key hr (.inl rfl) h
      · rename_i F1 H1 hr; exact key hr (.inr rfl) h
      · cases h
      · cases h
    | none =>
      rw [hdf] at h
      simp only at h
      cases hx : runC P fid fn.ntmps call m a F H with
      | fail w => rw [hx] at h; cases h
      | exit id F1 H1 => rw [hx] at h; cases h
      | norm F1 H1 =>
        rw [hx] at h
        simp only at h
        obtain ⟨k1, k2⟩ := runC_ok hn hm hcall m a F H _ hx (by simp)
        obtain ⟨j1, j2⟩ := ih b F1 H1 v H' h
        refine ⟨Nat.le_trans k1 j1, fun ρ0 ρ σ0 s σ G1 hle hF hR => AWpD.seq (k2 ρ σ0 s σ [] _ hF hR fun ρ' s' σ' g1 g2 g3 => j2 ρ0 ρ' σ0 s' σ' G1 (hle.trans g1) g2 g3)⟩
      | ret F1 H1 =>
        rw [hx] at h
        simp only at h
        obtain ⟨k1, k2⟩ := runC_ok hn hm hcall m a F H _ hx (by simp)
        obtain ⟨rfl, r2⟩ := resR_ok h
        refine ⟨k1, fun ρ0 ρ σ0 s σ G1 hle hF hR => AWpD.seq (k2 ρ σ0 s σ [] _ hF hR fun ρ' s' σ' g1 g2 g3 => ?_)⟩
        show resAV fn.results.toList P s' σ' fun vs => ∃ r' σ'', AV.Wk P (packAV vs) r' ∧ AS.le σ'' σ' ∧ RQ P ρ0 σ0 v H' r' σ''
        exact r2 (K := fun x => ∃ r' σ'', AV.Wk P x r' ∧ AS.le σ'' σ' ∧ RQ P ρ0 σ0 v H' r' σ'') g2 g3.rb fun av hav => ⟨av, σ', Wk.refl _, AS.le_refl _, ρ', hle.trans g1, hav, g3⟩
theorem runF_ok (hm : P.follows .mixedOrders = true) {orc : Orc} (horc : OrcOK P orc) : ∀ fuel, CallOK P (runF P orc fuel) := by
  intro fuel
  induction fuel with
  | zero => intro f args H v H' h; cases h
  | succ m ih =>
    intro f args H v H' h
    simp only [runF] at h
    cases ho : orc f with
    | some o =>
      rw [ho] at h
      exact horc f o ho args H v H' h
    | none =>
      rw [ho] at h
      simp only at h
      split at h
      · rename_i fn hfn
        split at h
        · rename_i c hb
          obtain ⟨hc, h⟩ := bif_ok h
          simp only [Bool.and_eq_true, ble_dec, decide_eq_true_eq] at hc
          obtain ⟨⟨c1, c2⟩, c3⟩ := hc
          have hname := hasBody_inv c3 hfn
          cases hd : hasDef c with
          | true =>
            rw [hd] at h
            simp only [cond_true] at h
            obtain ⟨k1, k2⟩ := runD_ok hm c1 ih m c _ H v H' h
            exact ⟨k1, fun ρ σ0 σ avs hR hv => ACalls.of_bodyD hfn hb hname (by rw [← hv.len]; exact c2) fun G1 => k2 ρ ρ σ0 _ σ G1 (.refl ρ) (args_ok hv (by omega)) hR⟩
          | false =>
            rw [hd] at h
            simp only [cond_false] at h
            have key : ∀ {r : CR} {F1 : Fr} {H1 : Hp} {w : Nat}, runC P f fn.ntmps (runF P orc m) m c (putArgs args 0 fr0) H = r → (r = .norm F1 H1 ∨ r = .ret F1 H1) → resR fn.results.toList P F1 H1 w = .ok v H' →
                H.c ≤ H'.c ∧ ∀ ρ σ0 σ avs, R P ρ σ0 H σ → VL ρ args avs → ACalls P f avs σ (fun r σ' => ∃ ρ', Ren.le ρ ρ' ∧ VR ρ' v r ∧ R P ρ' σ0 H' σ') No := by
              intro r F1 H1 w hr hrr hres
              have hrf : ∀ w, r ≠ .fail w := by rcases hrr with rfl | rfl <;> simp
              obtain ⟨k1, k2⟩ := runC_ok c1 hm ih m c _ H r hr hrf
              obtain ⟨rfl, r2⟩ := resR_ok hres
              refine ⟨by rcases hrr with rfl | rfl <;> exact k1, fun ρ σ0 σ avs hR hv => ACalls.of_body hfn hb hname (by rw [← hv.len]; exact c2) (k2 ρ σ0 _ σ [] _ (args_ok hv (by omega)) hR ?_)⟩
              have fin : ∀ ρ' s' σ', Ren.le ρ ρ' → FR ρ' F1 s' → R P ρ' σ0 H' σ' → resAV fn.results.toList P s' σ' fun vs => ∃ r' σ'', AV.Wk P (packAV vs) r' ∧ AS.le σ'' σ' ∧ ∃ ρ'', Ren.le ρ ρ'' ∧ VR ρ'' v r' ∧ R P ρ'' σ0 H' σ'' :=
                fun ρ' s' σ' g1 g2 g3 => r2 (K := fun x => ∃ r' σ'', AV.Wk P x r' ∧ AS.le σ'' σ' ∧ ∃ ρ'', Ren.le ρ ρ'' ∧ VR ρ'' v r' ∧ R P ρ'' σ0 H' σ'') g2 g3.rb fun av hav => ⟨av, σ', Wk.refl _, AS.le_refl _, ρ', g1, hav, g3⟩
              rcases hrr with rfl | rfl
              · exact fun ρ' s' σ' g1 g2 g3 => fin ρ' s' σ' g1 g2 g3
              · exact fun ρ' s' σ' g1 g2 g3 => fin ρ' s' σ' g1 g2 g3
            split at h
            · rename_i F1 H1 hr; exact key hr (.inl rfl) h
            · rename_i F1 H1 hr; exact key hr (.inr rfl) h
            · cases h
            · cases h
        · cases h
      · cases h
theorem closed (hm : P.follows .mixedOrders = true) {orc : Orc} (horc : OrcOK P orc) {fuel : Nat} {f : FuncId} {b : Bool} {H' : Hp} (h : runF P orc fuel f [] hp0 = .ok (.bool b) H') (σ : AS) : ACalls P f [] σ (fun r σ' => r = .sc (.bool b) ∧ AS.le σ σ') No := by
  have h0 : ∀ i, hp0.get i = .non := by
    intro i
    show T5.get (p5 i) (T5.all Blk.non) = .non
    unfold T5.all T5.get T3.all T3.get
    rw [N8.get_all, N8.get_all, N8.get_all, N8.get_all, N8.get_all]
  have hR : R P (fun _ => none) σ hp0 σ := by
    refine ⟨⟨(fun i p h => by cases h), fun i hi hl => ?_⟩, fun i j x N M hl => ?_, AS.le_refl _, fun i x N hl => ?_, fun i _ => rfl, fun i _ _ => by rw [h0]; rfl⟩
    · rw [h0] at hl; cases hl
    · rw [h0] at hl; cases hl
    · rw [h0] at hl; cases hl
  refine ((runF_ok hm horc fuel f [] hp0 _ H' h).2 _ σ σ [] hR .nil).mono ?_ (fun _ _ h => h)
  rintro r σ' ⟨ρ', _, hv, hR'⟩
  cases hv
  exact ⟨rfl, hR'.le⟩
end Go.AW.Ev
