/- A layer of abstract values over the model's machine: own work for this claim, part AwMapI. -/
import Derived.Test.YtgdpkfonielilaaAwMap
set_option linter.unusedSimpArgs false
set_option linter.unusedVariables false
namespace Go.AW
open Go Go.RowKit

variable {P : Program} {n : Nat} {ds : List Deferred} {Q : AQ} {s : Fr} {σ : AS}

/-! ## maps whose keys are ints -/

def ikvs (kvs : List (Int × AV)) : List (AV × AV) := kvs.map fun p => (.sc (.int .i64 p.1), p.2)
def findI (k : Int) : List (Int × AV) → Option AV
  | [] => none
  | (k', v) :: r => if k = k' then some v else findI k r
def updI (k : Int) (v : AV) : List (Int × AV) → List (Int × AV)
  | [] => [(k, v)]
  | (k', v') :: r => if k = k' then (k, v) :: r else (k', v') :: updI k v r

theorem bi_self (k : Int) : (k == k) = true := by simp
theorem bi_ne {a b : Int} (h : a ≠ b) : (a == b) = false := by simpa using h

theorem findNow_int (k : Int) (v : AV) : ∀ (kvs : List (Int × AV)) (ms : List MapEntry) (i : Nat), ms.length = kvs.length → (∀ (j : Nat) (m : MapEntry), ms[j]? = some m → ∃ p : Int × AV, kvs[j]? = some p ∧ m.key = .int .i64 p.1) →
    (findI k kvs = none ∧ Instr.findNow (.int .i64) (.int .i64 k) ms i = some none ∧ updI k v kvs = kvs ++ [(k, v)]) ∨
    (∃ (j : Nat) (p : Int × AV) (m : MapEntry), kvs[j]? = some p ∧ ms[j]? = some m ∧ p.1 = k ∧ findI k kvs = some p.2 ∧ Instr.findNow (.int .i64) (.int .i64 k) ms i = some (some (i + j, m.val)) ∧ updI k v kvs = kvs.set j (k, v)) := by
  intro kvs
  induction kvs with
  | nil =>
    intro ms i hl _
    have : ms = [] := List.length_eq_zero_iff.1 (by simpa using hl)
    subst this
    exact .inl ⟨rfl, rfl, rfl⟩
  | cons p r ih =>
    intro ms i hl hk
    cases ms with
    | nil => simp at hl
    | cons m ms =>
      obtain ⟨p', hp', hkey⟩ := hk 0 m rfl
      obtain rfl : p = p' := by simpa using hp'
      by_cases he : k = p.1
      · right
        refine ⟨0, p, m, rfl, rfl, he.symm, by simp [findI, he], ?_, by simp [updI, he]⟩
        simp [Instr.findNow, hkey, Instr.sameNow, he, bi_self]
      · rcases ih ms (i + 1) (by simpa using hl) (fun j m' hm => hk (j + 1) m' (by simpa using hm)) with ⟨h1, h2, h3⟩ | ⟨j, q, m', h1, h2, h3, h4, h5, h6⟩
        · left
          refine ⟨by simp [findI, he, h1], ?_, by simp [updI, he, h3]⟩
          have : (k == p.1) = false := bi_ne he
          simp [Instr.findNow, hkey, Instr.sameNow, this, h2]
        · right
          refine ⟨j + 1, q, m', by simpa using h1, by simpa using h2, h3, by simp [findI, he, h4], ?_, by simp [updI, he, h6]⟩
          have : (k == p.1) = false := bi_ne he
          simp [Instr.findNow, hkey, Instr.sameNow, this, h5]
          omega

theorem run_checkKey_int {t : TypeId} {w : World} {b : Bool} {k : Int} (ht : P.underlying t = some (.int .i64)) : (Instr.checkKey b 10000 t (.int .i64 k)).run P w = .ok () w := by
  have : ∀ m : Nat, (Instr.checkKey b (m + 1) t (.int .i64 k)).run P w = .ok () w := fun m => by
    simp [Instr.checkKey, run_underlying ht, Sem.run_bind, Result.andThen]
  exact this 9999

theorem run_findKey_int {t : TypeId} {w : World} {k : Int} {ms : List MapEntry} {r : Option (Nat × Value)} (ht : P.underlying t = some (.int .i64)) (h : Instr.findNow (.int .i64) (.int .i64 k) ms 0 = some r) :
    (Instr.findKey t (.int .i64 k) ms).run P w = .ok r w := by
  simp [Instr.findKey, run_underlying ht, Sem.run_bind, Result.andThen, h]

theorem map_readI {G : Gh} {w : World} {id : Nat} {kvs : List (Int × AV)} (hi : Inv P G σ w) (hσ : σ id = some (.map (ikvs kvs))) :
    ∃ (b : Nat) (ms : Array MapEntry) (clock : Nat), G.inj id = some b ∧ w.heap[b]? = some (.map ms clock) ∧ (ms.size = kvs.length ∧ StampB ms clock) ∧ (∀ (j : Nat) (m : MapEntry), ms.toList[j]? = some m → ∃ p : Int × AV, kvs[j]? = some p ∧ m.key = .int .i64 p.1 ∧ Rep P G p.2 m.val) := by
  obtain ⟨b, ms, clock, h1, h2, ⟨h3, hst⟩, h4⟩ := hi.maps id _ hσ
  have hlen : (ikvs kvs).length = kvs.length := by simp [ikvs]
  refine ⟨b, ms, clock, h1, h2, ⟨by omega, hst⟩, fun j m hm => ?_⟩
  have hj : j < kvs.length := by
    have := (List.getElem?_eq_some_iff.1 hm).1
    simp at this; omega
  obtain ⟨m', g1, g2, g3⟩ := h4 j (by omega)
  rw [Array.getElem?_toList, g1] at hm
  obtain rfl := Option.some.inj hm
  refine ⟨kvs[j], List.getElem?_eq_getElem hj, ?_, ?_⟩
  · have e : ((ikvs kvs).getD j (.any, .any)).1 = .sc (.int .i64 kvs[j].1) := by simp [ikvs, hj]
    rw [e] at g2
    generalize m'.key = x at g2
    cases g2; rfl
  · have e : ((ikvs kvs).getD j (.any, .any)).2 = kvs[j].2 := by simp [ikvs, hj]
    rwa [e] at g3


theorem lookup_outI {G : Gh} {w : World} {K Pn : AV → AS → Prop} (hi : Inv P G σ w) {t kt et : TypeId} {x ix : Value} {ok : Bool} {id : Nat} {k : Int} {kvs : List (Int × AV)}
    (hm : P.underlying t = some (.map kt et)) (hk : P.underlying kt = some (.int .i64)) (hz : (zeroAV P et).laid = true) (hx : Rep P G (.mp id) x) (hix : Rep P G (.sc (.int .i64 k)) ix) (hσ : σ id = some (.map (ikvs kvs)))
    (h : K (lookV P et (findI k kvs) ok) σ) : Out P G K Pn (((do pure (Next.value (← Instr.lookup t x ix ok))) : Sem Next).run P w) := by
  obtain ⟨b, ms, clock, h1, h2, ⟨h3, hst⟩, h4⟩ := map_readI hi hσ
  cases hix
  cases hx with
  | mp hb =>
    rw [h1] at hb
    obtain rfl := Option.some.inj hb
    obtain ⟨it, z, hit, hzv, hzr⟩ := zeroAV_info hz
    have tupR : ∀ (a : AV) (v : Value) (bb : Bool), Rep P G a v → Rep P G (.tup [a, .sc (.bool bb)]) (.tuple #[v, .bool bb]) := by
      intro a v bb ha
      refine .tup [v, .bool bb] rfl fun i hi => ?_
      match i, hi with
      | 0, _ => exact ha
      | 1, _ => exact .sc _
    rcases findNow_int k .any kvs ms.toList 0 (by simpa using h3) (fun j m hm => let ⟨p, a, b, _⟩ := h4 j m hm; ⟨p, a, b⟩) with ⟨g1, g2, _⟩ | ⟨j, p, m, g1, g2, g3, g4, g5, _⟩
    · have hrun : (Instr.lookup t (.map (some b)) (.int .i64 k) ok).run P w = .ok (if ok then .tuple #[z, .bool false] else z) w := by
        simp only [Instr.lookup, Sem.run_bind, run_underlying hm, Result.andThen_ok, MapKept.run_getObj_map h2, Sem.run_pure, run_checkKey_int hk, run_findKey_int hk g2, zeroValue, run_typeInfo w hit, hzv]
      refine Out.value hrun (.refl G) hi ?_ h
      rw [g1]
      unfold lookV
      cases ok
      · rw [Option.getD_none, hzr]; exact rep_ofC z
      · exact tupR _ _ _ (by rw [Option.getD_none, hzr]; exact rep_ofC z)
    · have hrun : (Instr.lookup t (.map (some b)) (.int .i64 k) ok).run P w = .ok (if ok then .tuple #[m.val, .bool true] else m.val) w := by
        simp only [Instr.lookup, Sem.run_bind, run_underlying hm, Result.andThen_ok, MapKept.run_getObj_map h2, Sem.run_pure, run_checkKey_int hk, run_findKey_int hk g5]
      refine Out.value hrun (.refl G) hi ?_ h
      obtain ⟨p', q1, _, q3⟩ := h4 j m g2
      rw [g1] at q1
      obtain rfl := Option.some.inj q1
      rw [g4]
      unfold lookV
      cases ok
      · exact q3
      · exact tupR _ _ _ q3

theorem SOp.lookupI {d t kt et : Nat} {x ix : Operand} {ok : Bool} {ty : TypeId} {pos : String} {af : Array Edge} {g : Option (Nat × Bool)} {K : Fr → AS → Prop} (hd : d < n) (id : Nat) (k : Int) (kvs : List (Int × AV))
    (hm : P.underlying t = some (.map kt et)) (hk : P.underlying kt = some (.int .i64)) (hz : (zeroAV P et).laid = true) (hx : ev s x = .mp id) (hix : ev s ix = .sc (.int .i64 k)) (hσ : σ id = some (.map (ikvs kvs)))
    (h : K (s.put (some d) (lookV P et (findI k kvs) ok)) σ) : SOp P n ds Q ⟨some d, .lookup t x ix ok, ty, pos, af, g⟩ s σ K :=
  SOp.of_out hd fun G a w hs => lookup_outI (K := fun v σ' => K (s.put (some d) v) σ') hs.inv hm hk hz (hx ▸ hs.ev x) (hix ▸ hs.ev ix) hσ h

theorem mapUpdate_outI {G : Gh} {w : World} {K Pn : AV → AS → Prop} (hi : Inv P G σ w) {t kt et : TypeId} {x ix vx : Value} {v : AV} {id : Nat} {k : Int} {kvs : List (Int × AV)}
    (hm : P.underlying t = some (.map kt et)) (hk : P.underlying kt = some (.int .i64)) (hx : Rep P G (.mp id) x) (hix : Rep P G (.sc (.int .i64 k)) ix) (hv : Rep P G v vx) (hσ : σ id = some (.map (ikvs kvs)))
    (h : K .any (σ.set id (.map (ikvs (updI k v kvs))))) : Out P G K Pn (((do Instr.mapUpdate t x ix vx; pure Next.skip) : Sem Next).run P w) := by
  obtain ⟨b, ms, clock, h1, h2, ⟨h3, hst⟩, h4⟩ := map_readI hi hσ
  cases hix
  cases hx with
  | mp hb =>
    rw [h1] at hb
    obtain rfl := Option.some.inj hb
    have getS : ∀ (l : List (Int × AV)) (j : Nat) (p : Int × AV), l[j]? = some p → (ikvs l).getD j (.any, .any) = (.sc (.int .i64 p.1), p.2) := by
      intro l j p hp
      simp [ikvs, hp]
    have hsl : ∀ l, (ikvs l).length = l.length := by intro l; simp [ikvs]
    rcases findNow_int k v kvs ms.toList 0 (by simpa using h3) (fun j m hm => let ⟨p, a, b, _⟩ := h4 j m hm; ⟨p, a, b⟩) with ⟨g1, g2, g6⟩ | ⟨j, p, m, g1, g2, g3, g4, g5, g6⟩
    · have hrun : (Instr.mapUpdate t (.map (some b)) (.int .i64 k) vx).run P w = .ok () { w with heap := w.heap.setIfInBounds b (.map (ms.push { key := .int .i64 k, val := vx, born := clock }) (clock + 1)) } := by
        simp only [Instr.mapUpdate, Sem.run_bind, run_underlying hm, Result.andThen_ok, MapKept.run_getObj_map h2, Sem.run_pure, run_checkKey_int hk, run_findKey_int hk g2, MapKept.run_setObj_map _ h2]
      rw [g6] at h
      refine Out.unit hrun (.refl G) (hi.setMap h1 h2 _ _ (ikvs (kvs ++ [(k, v)])) (by simp [hsl, h3]) (stampB_push hst) (grow_push ms clock _ rfl) (fun i hi' => ?_)) (.any _) h
      rw [hsl] at hi'
      simp at hi'
      by_cases hlt : i < kvs.length
      · have hmi : i < ms.size := by omega
        obtain ⟨p, q1, q2, q3⟩ := h4 i ms[i] (by simp [hmi])
        refine ⟨ms[i], by simp [Array.getElem?_push, hmi]; omega, ?_⟩
        rw [getS _ i p (by rw [List.getElem?_append_left hlt]; exact q1), q2]
        exact ⟨.sc _, q3⟩
      · have he : i = kvs.length := by omega
        subst he
        refine ⟨{ key := .int .i64 k, val := vx, born := clock }, by rw [← h3]; simp, ?_⟩
        rw [getS _ kvs.length (k, v) (by simp)]
        exact ⟨.sc _, hv⟩
    · have hjm : j < ms.size := by
        have := (List.getElem?_eq_some_iff.1 g2).1
        simpa using this
      have hold : ms[j]? = some m := by rw [← Array.getElem?_toList]; exact g2
      obtain ⟨p', q1, q2, q3⟩ := h4 j m g2
      rw [g1] at q1
      obtain rfl := Option.some.inj q1
      have hkey : (Instr.keyThatStays m.key (.int .i64 k)).run P w = .ok (.int .i64 k) w := by
        have : ∀ q : Nat, Instr.sameBits q (.int .i64 k) (.int .i64 k) = true := fun q => by simp [Instr.sameBits, bi_self]
        rw [q2, g3]
        simp [Instr.keyThatStays, this]
      have hrun : (Instr.mapUpdate t (.map (some b)) (.int .i64 k) vx).run P w = .ok () { w with heap := w.heap.setIfInBounds b (.map (ms.modify j fun e => { e with key := .int .i64 k, val := vx }) clock) } := by
        simp only [Instr.mapUpdate, Sem.run_bind, run_underlying hm, Result.andThen_ok, MapKept.run_getObj_map h2, Sem.run_pure, run_checkKey_int hk, run_findKey_int hk g5, Nat.zero_add, hold, Option.map_some, Option.getD_some, hkey, MapKept.run_setObj_map _ h2]
      rw [g6] at h
      refine Out.unit hrun (.refl G) (hi.setMap h1 h2 _ _ (ikvs (kvs.set j (k, v))) (by simp [hsl, h3]) (stampB_modify hst j _ (fun _ => rfl)) (grow_modify ms clock j _ (fun _ => rfl)) (fun i hi' => ?_)) (.any _) h
      rw [hsl] at hi'
      simp at hi'
      have hmi : i < ms.size := by omega
      by_cases hij : i = j
      · subst hij
        refine ⟨{ m with key := .int .i64 k, val := vx }, by simp [Array.getElem?_modify, hold], ?_⟩
        rw [getS _ i (k, v) (by simp [List.getElem?_set, hi'])]
        exact ⟨.sc _, hv⟩
      · obtain ⟨p2, r1, r2, r3⟩ := h4 i ms[i] (by simp [hmi])
        refine ⟨ms[i], by rw [Array.getElem?_modify, if_neg (fun e => hij e.symm)]; exact Array.getElem?_eq_getElem hmi, ?_⟩
        rw [getS _ i p2 (by rw [List.getElem?_set_ne (fun e => hij e.symm)]; exact r1), r2]
        exact ⟨.sc _, r3⟩

theorem SOp.mapUpdateI {t kt et : Nat} {m x ix : Operand} {ty : TypeId} {pos : String} {af : Array Edge} {g : Option (Nat × Bool)} {K : Fr → AS → Prop} (id : Nat) (k : Int) (kvs : List (Int × AV))
    (hm : P.underlying t = some (.map kt et)) (hk : P.underlying kt = some (.int .i64)) (hx : ev s m = .mp id) (hix : ev s ix = .sc (.int .i64 k)) (hσ : σ id = some (.map (ikvs kvs)))
    (h : K s (σ.set id (.map (ikvs (updI k (ev s x) kvs))))) : SOp P n ds Q ⟨none, .mapUpdate t m ix x, ty, pos, af, g⟩ s σ K :=
  SOp.of_out trivial fun G a w hs => mapUpdate_outI (K := fun v σ' => K (s.put none v) σ') hs.inv hm hk (hx ▸ hs.ev m) (hix ▸ hs.ev ix) (hs.ev x) hσ h

end Go.AW
