/- A layer of abstract values over the model's machine: own work for this claim, part AwOps8. -/
import Derived.Test.YtnkjbgcbchbonaaAwOps7
set_option linter.unusedSimpArgs false
set_option linter.unusedVariables false
namespace Go.AW
open Go Go.RowKit

variable {P : Program} {G : Gh} {σ : AS} {w : World} {K Pn : AV → AS → Prop}

/-! ## len -/

def aLen (P : Program) (σ : AS) (t : TypeId) (x : AV) (K : AV → Prop) : Prop :=
  match P.underlying t, x with
  | some (.slice _), .lst _ elems _ _ => K (.sc (.int .i64 elems.length))
  | some (.slice _), .nilS => K (.sc (.int .i64 0))
  | some (.slice _), .msl _ _ n _ => K (.sc (.int .i64 n))
  | some .string, .sc (.string s) => K (.sc (.int .i64 s.data.toList.length))
  | some (.array n _), _ => K (.sc (.int .i64 n))
  | some (.map _ _), .mp id => match σ id with | some (.map es) => K (.sc (.int .i64 es.length)) | _ => False
  | some (.map _ _), .sc (.map none) => K (.sc (.int .i64 0))
  | _, _ => False

theorem aLen_out (hi : Inv P G σ w) {t ty : TypeId} {x : AV} {v : Value} (hx : Rep P G x v) (h : aLen P σ t x fun v => K v σ) :
    Out P G K Pn (((do pure (Next.value (← Builtin.len_ #[t] ty #[v]))) : Sem Next).run P w) := by
  unfold aLen at h
  split at h
  · rename_i e e' elems own nil hu
    have : ∃ a c, v = .slice a elems.length c := by cases hx <;> exact ⟨_, _, rfl⟩
    obtain ⟨a, c, rfl⟩ := this
    exact Out.pure hi (by simp [Builtin.len_, run_underlying hu, goInt]) (.sc _) h
  · rename_i e hu
    cases hx
    exact Out.pure hi (by simp [Builtin.len_, run_underlying hu, goInt]) (.sc _) h
  · rename_i e id off n c hu
    cases hx
    exact Out.pure hi (by simp [Builtin.len_, run_underlying hu, goInt]) (.sc _) h
  · rename_i s hu
    cases hx
    refine Out.pure hi (v := .int .i64 s.data.toList.length) (by simp [Builtin.len_, run_underlying hu, goInt]) (.sc _) h
  · rename_i n e hu
    exact Out.pure hi (by simp [Builtin.len_, run_underlying hu, goInt]) (.sc _) h
  · rename_i k e id hu
    split at h
    · rename_i es hs
      obtain ⟨b, ms, c, k1, k2, k3, k4⟩ := hi.maps _ _ hs
      cases hx with
      | mp hb =>
        rw [hb] at k1
        obtain rfl := Option.some.inj k1
        refine Out.pure hi (v := .int .i64 es.length) ?_ (.sc _) h
        simp [Builtin.len_, run_underlying hu, getObj, Sem.run, k2, goInt, k3]
    · exact h.elim
  · rename_i k e hu
    cases hx
    exact Out.pure hi (by simp [Builtin.len_, run_underlying hu, goInt]) (.sc _) h
  · exact h.elim

/-! ## append -/

/-- What is appended. -/
def srcElems (P : Program) (e tx : TypeId) (x : AV) : Option (List AV) :=
  match P.underlying tx, x with
  | some (.slice _), .lst e' xs _ _ => if e' = e then some xs else none
  | some (.slice _), .nilS => some []
  | some .string, .sc (.string s) => if P.cellsOf e = 1 then some (s.data.toList.map u8) else none
  | some (.int _), .sc (.int _ n) => if 0 ≤ n ∧ n ≤ 1000000 ∧ P.bytesOf e ≤ 1000 then some (List.replicate n.toNat (zeroAV P e)) else none
  | _, _ => none

theorem zeros_get {z : Value} {m : Nat} (hz : z.cells.size = m) (n : Nat) (i j : Nat) (hi : i < n) (hj : j < m) : ((Builtin.zeroCells z.cells n).toList).getD (i * m + j) undef = z.cells.getD j undef := by
  have hlt : i * m + j < n * m := by
    have : (i + 1) * m ≤ n * m := Nat.mul_le_mul_right m hi
    rw [Nat.add_mul] at this; omega
  have e1 : (i * m + j) % m = j := by rw [Nat.add_comm, Nat.add_mul_mod_self_right, Nat.mod_eq_of_lt hj]
  have hjs : j < z.cells.size := by omega
  have e2 : z.cells[j]! = z.cells[j] := by simp [getElem!_def, hjs]
  simp [Builtin.zeroCells, hz, hlt, e1, hjs, e2, Array.getD]
  omega

theorem src_ok (hi : Inv P G σ w) {e tx : TypeId} {x : AV} {vx : Value} {xs : List AV} (hz1 : (zeroAV P e).laid = true) (hz2 : (zeroAV P e).cells.length = P.cellsOf e) (hx : Rep P G x vx) (h : srcElems P e tx x = some xs) :
    ∃ news, SrcG P e tx vx xs.length news w ∧ News P G e xs news := by
  suffices hsuf : (∃ news, Src P (P.cellsOf e) tx vx xs.length news w ∧ News P G e xs news) ∨ ∃ news i, P.info? e = some i ∧ ZSrc P i tx vx xs.length news ∧ News P G e xs news by
    rcases hsuf with ⟨news, h1, h2⟩ | ⟨news, i, h1, h2, h3⟩
    · exact ⟨news, .inl h1, h2⟩
    · exact ⟨news, .inr ⟨i, h1, h2⟩, h3⟩
  unfold srcElems at h
  split at h
  · rename_i e1 e' ys own nil hu
    split at h
    · rename_i he
      subst he
      cases h
      cases hx with
      | lstN ho => exact .inl ⟨[], Src.ofNil w hu 0, by simp, by simp, by simp⟩
      | lstZ => exact .inl ⟨[], Src.ofSlice w hu _ 0 _ [] (by simp) (by simp) (by simp), by simp, by simp, by simp⟩
      | lst vs hl hm hr hc ho =>
        rename_i b off cap
        refine .inl ⟨(List.range (xs.length * P.cellsOf e')).map vs, Src.ofSlice w hu ⟨b, off, none⟩ xs.length cap _ (by simp) (fun j u hu' => ?_) (fun u hu' => ?_), by simp, hl, fun i j hi' hj => ?_⟩
        · have hj : j < xs.length * P.cellsOf e' := by
            rcases Nat.lt_or_ge j (xs.length * P.cellsOf e') with h | h
            · exact h
            · rw [List.getElem?_eq_none (by simpa using h)] at hu'; cases hu'
          simp [hj] at hu'
          subst hu'
          rw [Addr.add_lit]
          exact (hi.mem _ _ _ (hm j hj)).1
        · simp at hu'
          obtain ⟨j, hj, rfl⟩ := hu'
          exact (hi.mem _ _ _ (hm j hj)).2
        · have := hr i j hi' hj
          have hlt := idx_lt hi' hj
          simpa [List.getD_eq_getElem?_getD, hlt] using this
    · cases h
  · rename_i e1 hu
    cases h
    cases hx
    exact .inl ⟨[], Src.ofNil w hu 0, by simp, by simp, by simp⟩
  · rename_i s hu
    split at h
    · rename_i hc1
      cases h
      cases hx
      have hlen : (s.data.toList.map u8).length = s.size := by rw [List.length_map, Array.length_toList]; rfl
      refine .inl ⟨byteCells s, ?_, ?_, fun i hi' => ?_, fun i j hi' hj => ?_⟩
      · rw [hc1, hlen]; exact Src.ofString w hu s
      · rw [byteCells_length, hlen, hc1, Nat.mul_one]
      · simp only [List.length_map] at hi'
        simp only [List.getD_eq_getElem?_getD, List.getElem?_map, List.getElem?_eq_getElem hi']
        rw [hc1]; rfl
      · simp only [List.length_map] at hi'
        have : j = 0 := by omega
        subst this
        rw [hc1, Nat.mul_one, Nat.add_zero]
        simp only [byteCells, List.getD_eq_getElem?_getD, List.getElem?_map, List.getElem?_eq_getElem hi']
        exact .sc _
    · cases h
  · rename_i k k' n hu
    split at h
    · rename_i hc
      cases h
      cases hx
      obtain ⟨hc0, hc1, hc2⟩ := hc
      obtain ⟨it, z, hit, hz, hzr⟩ := zeroAV_info hz1
      have hsz : it.size = P.cellsOf e := by simp [Program.cellsOf, hit]
      have hby : it.bytes = P.bytesOf e := by simp [Program.bytesOf, hit]
      obtain ⟨z1, z2⟩ := laid_cells (rep_ofC (P := P) (G := G) z) (by rw [← hzr]; exact hz1)
      rw [← hzr, hz2] at z1 z2
      obtain ⟨N, rfl⟩ : ∃ N : Nat, n = N := ⟨n.toNat, by omega⟩
      simp only [Int.toNat_natCast, List.length_replicate]
      have hlen : ((Builtin.zeroCells z.cells N).toList).length = N * P.cellsOf e := by simp [Builtin.zeroCells, z1]
      have hnews : (if N * it.size = 0 then [] else (Builtin.zeroCells z.cells N).toList) = (Builtin.zeroCells z.cells N).toList := by
        by_cases h0 : N * it.size = 0
        · rw [if_pos h0]
          rw [hsz] at h0
          rw [h0] at hlen
          exact (List.length_eq_zero_iff.1 hlen).symm
        · rw [if_neg h0]
      refine .inr ⟨(Builtin.zeroCells z.cells N).toList, it, hit, ⟨⟨k, hu⟩, ⟨k', rfl⟩, ⟨by omega, by omega⟩, ⟨z, hz, hnews.symm⟩, by rw [hlen, hsz], fun u hu' => ?_⟩, by simp [hlen], fun i hi' => ?_, fun i j hi' hj => ?_⟩
      · obtain ⟨p, hp, rfl⟩ := List.getElem_of_mem hu'
        rw [hlen] at hp
        have hpos : 0 < P.cellsOf e := by
          rcases Nat.eq_zero_or_pos (P.cellsOf e) with h | h
          · rw [h] at hp; omega
          · exact h
        have hm1 : p % P.cellsOf e < P.cellsOf e := Nat.mod_lt _ hpos
        have hm2 : p / P.cellsOf e < N := Nat.div_lt_of_lt_mul (by rw [Nat.mul_comm]; exact hp)
        have hm3 : (p / P.cellsOf e) * P.cellsOf e + p % P.cellsOf e = p := by rw [Nat.mul_comm]; exact Nat.div_add_mod p _
        have hg := zeros_get z1 N _ _ hm2 hm1
        rw [hm3] at hg
        have he : (Builtin.zeroCells z.cells N).toList[p] = (Builtin.zeroCells z.cells N).toList.getD p undef := by
          rw [List.getD_eq_getElem?_getD, List.getElem?_eq_getElem (by rw [hlen]; exact hp)]; rfl
        rw [he, hg]
        exact (z2 _ hm1).2
      · simp only [List.length_replicate] at hi'
        rw [List.getD_eq_getElem?_getD, List.getElem?_replicate, if_pos hi']
        exact hz2
      · simp only [List.length_replicate] at hi'
        rw [zeros_get z1 N i j hi' hj]
        have hg : (List.replicate N (zeroAV P e)).getD i .any = zeroAV P e := by rw [List.getD_eq_getElem?_getD, List.getElem?_replicate, if_pos hi']; rfl
        rw [hg]
        exact (z2 j hj).1
    · cases h
  · cases h

def aAppend (P : Program) (σ : AS) (t tx : TypeId) (s x : AV) (K : AV → AS → Prop) : Prop :=
  match sliceT P t with
  | some e => P.cellsOf e ≠ 0 ∧ (zeroAV P e).laid = true ∧ (zeroAV P e).cells.length = P.cellsOf e ∧ (match srcElems P e tx x with
    | some xs => match s with
      | .nilS => xs.length * P.bytesOf e ≤ roomB (P.bytesOf e) ∧ xs.length ≤ 140737488355328 ∧ ∀ tk, σ tk = none → K (.lst e xs (.tok tk) xs.isEmpty) (σ.set tk (.tok xs.length))
      | .lst e' elems .full nil => e' = e ∧ (elems.length + xs.length) * P.bytesOf e ≤ roomB (P.bytesOf e) ∧ elems.length + xs.length ≤ 140737488355328 ∧
          ∀ tk, σ tk = none → K (.lst e (elems ++ xs) (.tok tk) (nil && xs.isEmpty)) (σ.set tk (.tok (elems.length + xs.length)))
      | .lst e' elems (.tok tk) nil => e' = e ∧ (elems.length + xs.length) * P.bytesOf e ≤ roomB (P.bytesOf e) ∧ elems.length + xs.length ≤ 140737488355328 ∧ σ tk = some (.tok elems.length) ∧
          K (.lst e (elems ++ xs) (.tok tk) (nil && xs.isEmpty)) (σ.set tk (.tok (elems.length + xs.length)))
      | _ => False
    | none => False)
  | none => False

/-- A slice without room, with a token. -/
theorem Rep.mint (hi : Inv P G σ w) {e : TypeId} {elems : List AV} {nil : Bool} {v : Value} (h : Rep P G (.lst e elems .full nil) v) :
    ∃ r, G.Le (G.mint r) ∧ Inv P (G.mint r) (σ.set G.top (.tok elems.length)) w ∧ Rep P (G.mint r) (.lst e elems (.tok G.top) nil) v := by
  cases h with
  | lstN ho =>
    obtain ⟨h1, h2⟩ := hi.mint none 0 e (fun _ => rfl)
    exact ⟨_, h1, h2, .lstN ⟨⟨none, 0, 0, e⟩, by simp [Gh.mint], rfl, Nat.le_refl _, fun _ => rfl⟩⟩
  | lst vs hl hm hr hc ho =>
    rename_i b off cap
    obtain ⟨a, ha⟩ := ho
    simp only [Value.slice.injEq] at ha
    obtain ⟨_, _, rfl⟩ := ha
    obtain ⟨h1, h2⟩ := hi.mint (some (b, off)) elems.length e (fun hh => by cases hh)
    refine ⟨_, h1, h2, .lst vs hl hm (fun i j a b => (hr i j a b).mono h1) hc ⟨⟨some (b, off), elems.length, elems.length, e⟩, by simp [Gh.mint], rfl, Nat.le_refl _, fun _ => rfl⟩⟩

theorem aAppend_out (hi : Inv P G σ w) {t tx ty : TypeId} {s x : AV} {vs vx : Value} (hs : Rep P G s vs) (hx : Rep P G x vx) (h : aAppend P σ t tx s x K) :
    Out P G K Pn (((do pure (Next.value (← Builtin.append_ #[t, tx] ty #[vs, vx]))) : Sem Next).run P w) := by
  unfold aAppend at h
  split at h
  · rename_i e he
    obtain ⟨hc0, hz1, hz2, h⟩ := h
    have hu := sliceT_eq he
    obtain ⟨it, z, hit, hz, hzr⟩ := zeroAV_info hz1
    have hrz : Rep P G (zeroAV P e) z := by rw [hzr]; exact rep_ofC z
    have hzs : z.cells.size = P.cellsOf e := by rw [← hz2]; exact (laid_cells hrz hz1).1
    split at h
    · rename_i xs hxs
      -- the case with a token
      have tokened : ∀ (G : Gh) (σ : AS) (elems : List AV) (tk : Nat) (nil : Bool), Inv P G σ w → Rep P G x vx → Rep P G (.lst e elems (.tok tk) nil) vs → σ tk = some (.tok elems.length) →
          (elems.length + xs.length) * P.bytesOf e ≤ roomB (P.bytesOf e) → elems.length + xs.length ≤ 140737488355328 →
          ∃ v' w' G', (Builtin.append_ #[t, tx] ty #[vs, vx]).run P w = .ok v' w' ∧ G.Le G' ∧ Inv P G' (σ.set tk (.tok (elems.length + xs.length))) w' ∧ Rep P G' (.lst e (elems ++ xs) (.tok tk) (nil && xs.isEmpty)) v' := by
        intro G σ elems tk nil hi hx hs htk h1 h2
        obtain ⟨news, s1, s2⟩ := src_ok hi hz1 hz2 hx hxs
        exact hi.append hu hit hz hzs (by omega) hs htk s1 s2 h1 h2
      have fulled : ∀ (elems : List AV) (nil : Bool), Rep P G (.lst e elems .full nil) vs → (elems.length + xs.length) * P.bytesOf e ≤ roomB (P.bytesOf e) → elems.length + xs.length ≤ 140737488355328 →
          (∀ tk, σ tk = none → K (.lst e (elems ++ xs) (.tok tk) (nil && xs.isEmpty)) (σ.set tk (.tok (elems.length + xs.length)))) →
          Out P G K Pn (((do pure (Next.value (← Builtin.append_ #[t, tx] ty #[vs, vx]))) : Sem Next).run P w) := by
        intro elems nil hs h1 h2 h3
        obtain ⟨r, m1, m2, m3⟩ := hs.mint hi
        obtain ⟨v', w', G', q1, q2, q3, q4⟩ := tokened (G.mint r) _ elems G.top nil m2 (hx.mono m1) m3 (by simp) h1 h2
        rw [AS.set_set] at q3
        exact Out.value q1 (m1.trans q2) q3 q4 (h3 _ hi.fresh)
      split at h
      · obtain ⟨h1, h2, h3⟩ := h
        cases hs
        have := fulled [] true (.lstN ⟨none, rfl⟩) (by simpa using h1) (by simpa using h2)
        simp only [List.nil_append, List.length_nil, Nat.zero_add, Bool.true_and] at this
        exact this h3
      · rename_i e' elems nil
        obtain ⟨rfl, h1, h2, h3⟩ := h
        exact fulled elems nil hs h1 h2 h3
      · rename_i e' elems tk nil
        obtain ⟨rfl, h1, h2, h3, h4⟩ := h
        obtain ⟨v', w', G', q1, q2, q3, q4⟩ := tokened G σ elems tk nil hi hx hs h3 h1 h2
        exact Out.value q1 q2 q3 q4 h4
      · exact h.elim
    · exact h.elim
  · exact h.elim

def aBuiltin (P : Program) (σ : AS) (b : Builtin) (ts : List TypeId) (args : List AV) (K : AV → AS → Prop) : Prop :=
  match b, ts, args with
  | .len, [t], [x] => aLen P σ t x fun v => K v σ
  | .append, [t, tx], [s, x] => aAppend P σ t tx s x K
  | .min, _, [.sc (.int k a), .sc (.int k' b)] => K (.sc (.int k (if b < a then b else a))) σ
  | .max, _, [.sc (.int k a), .sc (.int k' b)] => K (.sc (.int k (if a < b then b else a))) σ
  | _, _, _ => False

theorem two_of {α : Type} {a : Array α} {x y : α} (h : a.toList = [x, y]) : a = #[x, y] := by
  apply Array.ext'; rw [h]
theorem one_of {α : Type} {a : Array α} {x : α} (h : a.toList = [x]) : a = #[x] := by
  apply Array.ext'; rw [h]

theorem aBuiltin_out (hi : Inv P G σ w) {b : Builtin} {ts : Array TypeId} {ty : TypeId} {cs : Array Bool} {args : Array Operand} {s : Fr} {ρ : Operand → Value} (hρ : ∀ x, Rep P G (ev s x) (ρ x))
    (h : aBuiltin P σ b ts.toList (args.toList.map (ev s)) K) : Out P G K Pn ((builtin b ts ty cs (args.map ρ)).run P w) := by
  unfold aBuiltin at h
  split at h
  · rename_i t x h1 h2
    obtain rfl := one_of h1
    obtain ⟨o, rfl⟩ : ∃ o, args = #[o] := by
      cases hl : args.toList with
      | nil => rw [hl] at h2; simp at h2
      | cons o r =>
        rw [hl] at h2
        simp at h2
        obtain ⟨_, rfl⟩ := h2
        exact ⟨o, one_of hl⟩
    simp at h2
    subst h2
    have e : (#[o] : Array Operand).map ρ = #[ρ o] := by simp
    rw [e]
    exact aLen_out (ty := ty) hi (hρ o) h
  · rename_i t tx a x h1 h2
    obtain rfl := two_of h1
    obtain ⟨o1, o2, rfl⟩ : ∃ o1 o2, args = #[o1, o2] := by
      cases hl : args.toList with
      | nil => rw [hl] at h2; simp at h2
      | cons o r =>
        cases r with
        | nil => rw [hl] at h2; simp at h2
        | cons o' r =>
          rw [hl] at h2
          simp at h2
          obtain ⟨_, _, rfl⟩ := h2
          exact ⟨o, o', two_of hl⟩
    simp at h2
    obtain ⟨rfl, rfl⟩ := h2
    have e : (#[o1, o2] : Array Operand).map ρ = #[ρ o1, ρ o2] := by simp
    rw [e]
    exact aAppend_out (ty := ty) hi (hρ o1) (hρ o2) h
  all_goals first | exact h.elim | skip
  all_goals
    rename_i k a k' b' h2
    obtain ⟨o1, o2, rfl⟩ : ∃ o1 o2, args = #[o1, o2] := by
      cases hl : args.toList with
      | nil => rw [hl] at h2; simp at h2
      | cons o r =>
        cases r with
        | nil => rw [hl] at h2; simp at h2
        | cons o' r =>
          rw [hl] at h2
          simp at h2
          obtain ⟨_, _, rfl⟩ := h2
          exact ⟨o, o', two_of hl⟩
    simp at h2
    obtain ⟨e1, e2⟩ := h2
    have r1 := hρ o1
    have r2 := hρ o2
    rw [e1] at r1
    rw [e2] at r2
    have e : (#[o1, o2] : Array Operand).map ρ = #[ρ o1, ρ o2] := by simp
    rw [e]
    generalize ρ o1 = v1 at r1 ⊢
    generalize ρ o2 = v2 at r2 ⊢
    cases r1
    cases r2
  · exact Out.pure hi (s := Builtin.min_ ts ty #[.int k a, .int k' b']) (by simp [Builtin.min_, Builtin.min2]) (.sc _) h
  · exact Out.pure hi (s := Builtin.max_ ts ty #[.int k a, .int k' b']) (by simp [Builtin.max_, Builtin.max2]) (.sc _) h

end Go.AW
