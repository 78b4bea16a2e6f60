/- A layer of abstract values over the model's machine: own work for this claim, part AwOps7. -/
import Derived.Laws.IdiomStrings
import Derived.MapKept
import Derived.Orders
import Derived.Still
import Derived.Test.YtknalmoackcpbaaGreatAwCore
set_option linter.all false
open Go Go.RowKit
namespace Go.AW
variable {P:Program} {G:Gh} {σ:AS} {w:World} {K Pn:AV→AS→Prop}
def Lc (op:UnOp) (x:AV) (K:AV→Prop):Prop:=
 match op,x with
 |.not,.sc (.bool b)=>K (.sc (.bool (!b)))
 |.neg,.sc (.int k n)=>K (.sc (.int k (k.wrap (0-n))))
 |.xor,.sc (.int k n)=>K (.sc (.int k (k.wrap (BitVec.ofInt k.bits (if k.signed then-1 else k.max)^^^BitVec.ofInt k.bits n).toNat)))
 | _,_ =>False
theorem Lb (l:Inv P G σ w) {op:UnOp}{x:AV}{v:Value}(j:aU P G x v) (h:Lc op x fun v=>K v σ):
 Out P G K Pn (((do pure (Next.value (←Op.unary op v))):Sem Next).run P w):=by
 unfold Lc at h;split at h
 ·cases j;exact Out.pure l rfl (.sc _) h
 ·cases j;exact Out.pure l rfl (.sc _) h
 ·cases j;exact Out.pure l rfl (.sc _) h
 ·exact h.elim
def jB (x:AV) (i:Nat) (K:AV→Prop):Prop:=
 match x with
 |.cp vs=>i<vs.length∧K (vs.getD i .any)
 | _ =>False
theorem y8 (u:Inv P G σ w) {x:AV}{v:Value}{i:Nat}(o:aU P G x v) (h:jB x i fun v=>K v σ):
 Out P G K Pn (((do pure (Next.value (←Instr.extract v i))):Sem Next).run P w):=by
 unfold jB at h;split at h
 ·cases o with
  |cp vs l q=>
   have j:i<vs.length:=by omega
   refine Out.pure u (v:=vs.getD i undef) ?_ (q i h.1) h.2;simp[Instr.extract,j]
 ·exact h.elim
def gw (x:AV) (K:AV→Prop):Prop:=
 match x with
 |.ptr _ _ |.g0 _ |.fn (.func _) _ _ |.mp _ =>K x
 |.sc (.func (.func _) _ _)=>K x
 |.lq _ _ =>K x
 | _ =>False
theorem wG (u:Inv P G σ w) {x:Operand}{ρ:Operand→Value}{j:AV}{o:Oper}(q:o.op= .nilCheck x) (l:aU P G j (ρ x)) (h:gw j fun v=>K v σ):
 Out P G K Pn ((execOp ρ o).run P w):=by
 have key:(execOp ρ o).run P w= .ok (.value (ρ x)) w:=by unfold execOp;simp only[q];unfold gw at h;split at h<;>first|exact h.elim|(generalize ρ x=v at l;cases l;simp)
 rw[key];refine⟨G,σ,j,.refl G,u,l,?_⟩;unfold gw at h;split at h<;>first|exact h|exact h.elim
def u8 (b:UInt8):AV:= .sc (.int .u8 b.toNat)
def zn:AV→Option UInt8
 |.sc (.int .u8 n)=>if 0≤n∧n<256 then some (UInt8.ofNat n.toNat)else none
 | _ =>none
def sW (l:List AV):Option (List UInt8):=l.mapM zn
theorem FU (l:List UInt8):sW (l.map u8)=some l:=by
 induction l with
 |nil=>rfl
 |cons b l j=>
  have h1:zn (u8 b)=some b:=by have:=b.toNat_lt;simp only[zn,u8];rw[if_pos ⟨by omega,by omega⟩];simp
  simp only[sW,List.map_cons,List.mapM_cons,h1]at j⊢;rw[j];rfl
theorem vP {l:List AV}{j:List UInt8}(h:sW l=some j):l.length=j.length∧ ∀i,i<l.length→l.getD i .any=u8 (j.getD i 0):=by
 induction l generalizing j with
 |nil=>simp[sW]at h;subst h;simp
 |cons a l o=>
  simp only[sW,List.mapM_cons,Option.bind_eq_bind,Option.pure_def]at h;cases ha:zn a with
  |none=>simp[ha]at h
  |some b=>
   cases hl:l.mapM zn with
   |none=>simp[ha,hl]at h
   |some r=>
    simp[ha,hl]at h;subst h;obtain⟨h1,u⟩:=o hl;refine⟨by simp[h1],fun i q=> ?_⟩;cases i with
    |zero=>
     simp;unfold zn at ha;split at ha
     ·rename_i n;split at ha
      ·rename_i hn;cases ha;simp only[u8];congr 2;rw[UInt8.toNat_ofNat'];omega
      ·cases ha
     ·cases ha
    |succ i=>simpa using u i (by simpa using q)
def cU (P:Program) (src dst:TypeId) (x:AV) (K:AV→Prop):Prop:=
 match P.underlying src,P.underlying dst,x with
 |some _,some (.int k),.sc (.int _ n)=>K (.sc (.int k (k.wrap n)))
 |some _,some .string,.sc (.string s)=>K (.sc (.string s))
 |some (.slice e),some .string,.aC=>P.underlying e=some (.int .u8)∧K (.sc (.string .empty))
 |some (.slice e),some .string,.ah j elems _ _ =>P.underlying e=some (.int .u8)∧P.cellsOf j=1∧(match sW elems with|some l=>K (.sc (.string ⟨l.toArray⟩))|none=>False)
 |some .string,some (.slice e),.sc (.string s)=>P.underlying e=some (.int .u8)∧P.cellsOf e=1∧s.size≤140737488355328∧K (.ah e (s.data.toList.map u8) .aJ false)
 | _,_,_ =>False
theorem ns (A:Inv P G σ w) {src dst:TypeId}{x:AV}{v:Value}(F:aU P G x v) (h:cU P src dst x fun v=>K v σ):
 Out P G K Pn (((do pure (Next.value (←convert src dst v))):Sem Next).run P w):=by
 unfold cU at h;split at h
 ·rename_i d k kk n o u;cases F;refine Out.pure A (v:= .int k (k.wrap n)) ?_ (.sc _) h;unfold convert;rw[Sem.run_bind,run_underlying o,Result.andThen_ok,Sem.run_bind,run_underlying u,Result.andThen_ok];cases d<;>rfl
 ·rename_i d s o u;cases F;refine Out.pure A (v:= .string s) ?_ (.sc _) h;unfold convert;rw[Sem.run_bind,run_underlying o,Result.andThen_ok,Sem.run_bind,run_underlying u,Result.andThen_ok];cases d<;>rfl
 ·rename_i e o u;obtain⟨he,h⟩:=h;cases F;refine Out.pure A (v:= .string .empty) ?_ (.sc _) h;rw[run_convert_bytes_string w src dst e none 0 0 o he u];simp[Conv.bytesToString]
 ·rename_i e e' elems own nil o u;obtain⟨he,l,h⟩:=h;split at h
  ·rename_i E O;obtain⟨S,b2⟩:=vP O;cases F with
   |jw Y=>have:E= []:=List.length_eq_zero_iff.1 (by simpa using S.symm);subst this;refine Out.pure A (v:= .string .empty) ?_ (.sc _) h;rw[run_convert_bytes_string w src dst e none 0 0 o he u];simp[Conv.bytesToString]
   |mZ=>have:E= []:=List.length_eq_zero_iff.1 (by simpa using S.symm);subst this;refine Out.pure A (v:= .string .empty) ?_ (.sc _) h;rw[run_convert_bytes_string w src dst e _ 0 _ o he u];simp[Conv.bytesToString,loadCells,loadCellsFrom]
   |ah vs hl hm X hc Y=>
    rename_i b off cap;refine Out.pure A (v:= .string ⟨E.toArray⟩) ?_ (.sc _) h;rw[S];refine run_convert_bytes_back w src dst e ⟨b,off,none⟩ cap E o he u (fun j U=> ?_);have D:j<elems.length:=by omega
    have h1:=X j 0 D (by omega);rw[b2 j D]at h1;simp only[l,Nat.mul_one,Nat.add_zero]at h1;have Z:=(A.mem _ _ _ (hm j (by rw[l,Nat.mul_one];exact D))).1;rw[Addr.add_lit,Z];have e1:(u8 (E.getD j 0)).cells.getD 0 AV.any= .sc (.int .u8 (E.getD j 0).toNat):=rfl;rw[e1]at h1;generalize V:vs j=vj at h1;cases h1;simp[List.getD_eq_getElem?_getD,List.getElem?_eq_getElem U]
  ·exact h.elim
 ·rename_i e s o u;obtain⟨he,l,T,h⟩:=h;cases F;have H:=run_bytes_of_string (P:=P) w src dst e s o u he;have y:=grownCap_ge w s.size 0 e;have I:∀k,k<s.size→(bytesRow s (grownCap w s.size 0 e))[k]? =some (.int .u8 (s.data.toList.getD k 0).toNat):=by intro k L;have J:k<s.data.size:=L;unfold bytesRow;rw[Array.getElem?_append_left (by simpa using J)];simp[Array.getElem?_eq_getElem J]
  have M:s.size≤(bytesRow s (grownCap w s.size 0 e)).size:=by
   unfold bytesRow;rw[Array.size_append];have:(s.data.map fun b=>Value.int .u8 b.toNat).size=s.size:=by rw[Array.size_map];rfl
   omega
  obtain⟨hle,hinv⟩:G.Le (G.jk w.heap.size 0 s.size fun k=> .int .u8 (s.data.toList.getD k 0).toNat)∧Inv P (G.jk w.heap.size 0 s.size fun k=> .int .u8 (s.data.toList.getD k 0).toNat) σ _ :=
   A.drew.Ao e (bytesRow s (grownCap w s.size 0 e)) ((bytesRow s (grownCap w s.size 0 e)).size,(bytesRow s (grownCap w s.size 0 e)).size+1) s.size (fun k=> .int .u8 (s.data.toList.getD k 0).toNat) M (fun k L=>⟨I k L,rfl⟩)
  refine Out.value H hle hinv ?_ h;refine aU.te (fun k=> .int .u8 (s.data.toList.getD k 0).toNat) (by rw[List.length_map,Array.length_toList];rfl) (fun i q=> ?_) (fun k L=> ?_) (fun i j q U=> ?_) y trivial
  ·simp only[List.length_map]at q;simp only[List.getD_eq_getElem?_getD,List.getElem?_map,List.getElem?_eq_getElem q];rw[l];rfl
  ·rw[l,Nat.mul_one]at L;rw[Gh.ka (by omega) (by omega)];simp
  ·simp only[List.length_map]at q;have:j=0:=by omega
   subst this;rw[l,Nat.mul_one,Nat.add_zero];simp only[List.getD_eq_getElem?_getD,List.getElem?_map,List.getElem?_eq_getElem q];exact .sc _
 ·exact h.elim
end Go.AW
namespace Go.AW
variable {P:Program} {G:Gh} {σ:AS} {w:World} {K Pn:AV→AS→Prop}
def iE (P:Program) (σ:AS) (t:TypeId) (x:AV) (K:AV→Prop):Prop:=
 match P.underlying t,x with
 |some (.slice _),.ah _ elems _ _ =>K (.sc (.int .i64 elems.length))
 |some (.slice _),.aC=>K (.sc (.int .i64 0))
 |some (.slice _),.dg _ _ n _ =>K (.sc (.int .i64 n))
 |some .string,.sc (.string s)=>K (.sc (.int .i64 s.data.toList.length))
 |some (.array n _),_ =>K (.sc (.int .i64 n))
 |some (.map _ _),.mp id=>match σ id with|some (.map es)=>K (.sc (.int .i64 es.length))| _ =>False
 |some (.map _ _),.sc (.map none)=>K (.sc (.int .i64 0))
 | _,_ =>False
theorem IX (j:Inv P G σ w) {t ty:TypeId}{x:AV}{v:Value}(l:aU P G x v) (h:iE P σ t x fun v=>K v σ):
 Out P G K Pn (((do pure (Next.value (←Builtin.len_ #[t] ty #[v]))):Sem Next).run P w):=by
 unfold iE at h;split at h
 ·rename_i e A elems own nil hu;have:∃a c,v= .slice a elems.length c:=by cases l<;>exact⟨_,_,rfl⟩
  obtain⟨a,c,rfl⟩:=this;exact Out.pure j (by simp[Builtin.len_,run_underlying hu,goInt]) (.sc _) h
 ·rename_i e hu;cases l;exact Out.pure j (by simp[Builtin.len_,run_underlying hu,goInt]) (.sc _) h
 ·rename_i e id off n c hu;cases l;exact Out.pure j (by simp[Builtin.len_,run_underlying hu,goInt]) (.sc _) h
 ·rename_i s hu;cases l;refine Out.pure j (v:= .int .i64 s.data.toList.length) (by simp[Builtin.len_,run_underlying hu,goInt]) (.sc _) h
 ·rename_i n e hu;exact Out.pure j (by simp[Builtin.len_,run_underlying hu,goInt]) (.sc _) h
 ·rename_i k e id hu;split at h
  ·rename_i es u;obtain⟨b,ms,c,k1,q,o,k4⟩:=j.maps _ _ u;cases l with
   |mp y=>rw[y]at k1;obtain rfl:=Option.some.inj k1;refine Out.pure j (v:= .int .i64 es.length) ?_ (.sc _) h;simp[Builtin.len_,run_underlying hu,getObj,Sem.run,q,goInt,o]
  ·exact h.elim
 ·rename_i k e hu;cases l;exact Out.pure j (by simp[Builtin.len_,run_underlying hu,goInt]) (.sc _) h
 ·exact h.elim
def cy (P:Program) (e j:TypeId) (x:AV):Option (List AV):=
 match P.underlying j,x with
 |some (.slice _),.ah l xs _ _ =>if l=e then some xs else none
 |some (.slice _),.aC=>some []
 |some .string,.sc (.string s)=>if P.cellsOf e=1 then some (s.data.toList.map u8)else none
 |some (.int _),.sc (.int _ n)=>if 0≤n∧n≤1000000∧P.bytesOf e≤1000 then some (List.replicate n.toNat (az P e))else none
 | _,_ =>none
theorem lX {z:Value}{m:Nat}(q:z.cells.size=m) (n:Nat) (i j:Nat) (v:i<n) (u:j<m):((Builtin.zeroCells z.cells n).toList).getD (i*m+j) undef=z.cells.getD j undef:=by
 have l:i*m+j<n*m:=by have:(i+1)*m≤n*m:=Nat.mul_le_mul_right m v;rw[Nat.add_mul]at this;omega
 have A:(i*m+j)%m=j:=by rw[Nat.add_comm,Nat.add_mul_mod_self_right,Nat.mod_eq_of_lt u]
 have o:j<z.cells.size:=by omega
 have y:z.cells[j]! =z.cells[j]:=by simp[o]
 simp[Builtin.zeroCells,q,l,A,y,Array.getD];omega
theorem xV (hi:Inv P G σ w) {e S:TypeId}{x:AV}{O:Value}{xs:List AV}(F:(az P e).laid=true) (E:(az P e).cells.length=P.cellsOf e) (T:aU P G x O) (h:cy P e S x=some xs):
 ∃news,wI P e S O xs.length news w∧Bk P G e xs news:=by
 suffices I:(∃news,Src P (P.cellsOf e) S O xs.length news w∧Bk P G e xs news)∨ ∃news i,P.info? e=some i∧Qa P i S O xs.length news∧Bk P G e xs news by
  rcases I with⟨news,h1,h2⟩|⟨news,i,h1,h2,h3⟩
  ·exact⟨news,.inl h1,h2⟩
  ·exact⟨news,.inr ⟨i,h1,h2⟩,h3⟩
 unfold cy at h;split at h
 ·rename_i e1 e' ys own nil hu;split at h
  ·rename_i he;subst he;cases h;cases T with
   |jw ho=>exact .inl ⟨[],Src.ofNil w hu 0,by simp,by simp,by simp⟩
   |mZ=>exact .inl ⟨[],Src.ofSlice w hu _ 0 _ [] (by simp) (by simp) (by simp),by simp,by simp,by simp⟩
   |ah vs hl hm hr hc ho=>
    rename_i b off cap;refine .inl ⟨(List.range (xs.length*P.cellsOf e')).map vs,Src.ofSlice w hu ⟨b,off,none⟩ xs.length cap _ (by simp) (fun j u o=> ?_) (fun u o=> ?_),by simp,hl,fun i j l q=> ?_⟩
    ·have q:j<xs.length*P.cellsOf e':=by
      rcases Nat.lt_or_ge j (xs.length*P.cellsOf e')with h|h
      ·exact h
      ·rw[List.getElem?_eq_none (by simpa using h)]at o;cases o
     simp[q]at o;subst o;rw[Addr.add_lit];exact(hi.mem _ _ _ (hm j q)).1
    ·simp at o;obtain⟨j,q,rfl⟩:=o;exact(hi.mem _ _ _ (hm j q)).2
    ·have:=hr i j l q;have ab:=jK l q;simpa[List.getD_eq_getElem?_getD,ab]using this
  ·cases h
 ·rename_i e1 hu;cases h;cases T;exact .inl ⟨[],Src.ofNil w hu 0,by simp,by simp,by simp⟩
 ·rename_i s hu;split at h
  ·rename_i v;cases h;cases T;have hlen:(s.data.toList.map u8).length=s.size:=by rw[List.length_map,Array.length_toList];rfl
   refine .inl ⟨byteCells s,?_,?_,fun i l=> ?_,fun i j l q=> ?_⟩
   ·rw[v,hlen];exact Src.ofString w hu s
   ·rw[byteCells_length,hlen,v,Nat.mul_one]
   ·simp only[List.length_map]at l;simp only[List.getD_eq_getElem?_getD,List.getElem?_map,List.getElem?_eq_getElem l];rw[v];rfl
   ·simp only[List.length_map]at l;have:j=0:=by omega
    subst this;rw[v,Nat.mul_one,Nat.add_zero];simp only[byteCells,List.getD_eq_getElem?_getD,List.getElem?_map,List.getElem?_eq_getElem l];exact .sc _
  ·cases h
 ·rename_i k k' n hu;split at h
  ·rename_i hc;cases h;cases T;obtain⟨av,v,ar⟩:=hc;obtain⟨it,z,A,hz,D⟩:=cR F;have H:it.size=P.cellsOf e:=by simp[Program.cellsOf,A]
   have ax:it.bytes=P.bytesOf e:=by simp[Program.bytesOf,A]
   obtain⟨M,X⟩:=fx (fq (P:=P) (G:=G) z) (by rw[←D];exact F);rw[←D,E]at M X;obtain⟨N,rfl⟩:∃N:Nat,n=N:=⟨n.toNat,by omega⟩;simp only[Int.toNat_natCast,List.length_replicate];have hlen:((Builtin.zeroCells z.cells N).toList).length=N*P.cellsOf e:=by simp[Builtin.zeroCells,M]
   have y:(if N*it.size=0 then []else(Builtin.zeroCells z.cells N).toList)=(Builtin.zeroCells z.cells N).toList:=by
    by_cases h0:N*it.size=0
    ·rw[if_pos h0];rw[H]at h0;rw[h0]at hlen;exact(List.length_eq_zero_iff.1 hlen).symm
    ·rw[if_neg h0]
   refine .inr ⟨(Builtin.zeroCells z.cells N).toList,it,A,⟨⟨k,hu⟩,⟨k',rfl⟩,⟨by omega,by omega⟩,⟨z,hz,y.symm⟩,by rw[hlen,H],fun u o=> ?_⟩,by simp[hlen],fun i l=> ?_,fun i j l q=> ?_⟩
   ·obtain⟨p,U,rfl⟩:=List.getElem_of_mem o;rw[hlen]at U;have J:0<P.cellsOf e:=by
     rcases Nat.eq_zero_or_pos (P.cellsOf e)with h|h
     ·rw[h]at U;omega
     ·exact h
    have L:p%P.cellsOf e<P.cellsOf e:=Nat.mod_lt _ J;have Z:p/P.cellsOf e<N:=Nat.div_lt_of_lt_mul (by rw[Nat.mul_comm];exact U);have Y:(p/P.cellsOf e)*P.cellsOf e+p%P.cellsOf e=p:=by rw[Nat.mul_comm];exact Nat.div_add_mod p _
    have V:=lX M N _ _ Z L;rw[Y]at V;have he:(Builtin.zeroCells z.cells N).toList[p]=(Builtin.zeroCells z.cells N).toList.getD p undef:=by rw[List.getD_eq_getElem?_getD,List.getElem?_eq_getElem (by rw[hlen];exact U)];rfl
    rw[he,V];exact(X _ L).2
   ·simp only[List.length_replicate]at l;rw[List.getD_eq_getElem?_getD,List.getElem?_replicate,if_pos l];exact E
   ·simp only[List.length_replicate]at l;rw[lX M N i j l q];have V:(List.replicate N (az P e)).getD i .any=az P e:=by rw[List.getD_eq_getElem?_getD,List.getElem?_replicate,if_pos l];rfl
    rw[V];exact(X j q).1
  ·cases h
 ·cases h
def lE (P:Program) (σ:AS) (t o:TypeId) (s x:AV) (K:AV→AS→Prop):Prop:=
 match bC P t with
 |some e=>P.cellsOf e≠0∧(az P e).laid=true∧(az P e).cells.length=P.cellsOf e∧(match cy P e o x with
  |some xs=>match s with
   |.aC=>xs.length*P.bytesOf e≤fF (P.bytesOf e)∧xs.length≤140737488355328∧ ∀j,σ j=none→K (.ah e xs (.tok j) xs.isEmpty) (σ.set j (.tok xs.length))
   |.ah l elems .full nil=>l=e∧(elems.length+xs.length)*P.bytesOf e≤fF (P.bytesOf e)∧elems.length+xs.length≤140737488355328∧
    ∀j,σ j=none→K (.ah e (elems++xs) (.tok j) (nil&&xs.isEmpty)) (σ.set j (.tok (elems.length+xs.length)))
   |.ah l elems (.tok j) nil=>l=e∧(elems.length+xs.length)*P.bytesOf e≤fF (P.bytesOf e)∧elems.length+xs.length≤140737488355328∧σ j=some (.tok elems.length)∧
    K (.ah e (elems++xs) (.tok j) (nil&&xs.isEmpty)) (σ.set j (.tok (elems.length+xs.length)))
   | _ =>False
  |none=>False)
 |none=>False
theorem aU.fG (q:Inv P G σ w) {e:TypeId}{elems:List AV}{nil:Bool}{v:Value}(h:aU P G (.ah e elems .full nil) v):
 ∃r,G.Le (G.fG r)∧Inv P (G.fG r) (σ.set G.top (.tok elems.length)) w∧aU P (G.fG r) (.ah e elems (.tok G.top) nil) v:=by
 cases h with
 |jw o=>obtain⟨h1,l⟩:=q.fG none 0 e (fun _ =>rfl);exact⟨_,h1,l,.jw ⟨⟨none,0,0,e⟩,by simp[Gh.fG],rfl,Nat.le_refl _,fun _ =>rfl⟩⟩
 |ah vs hl hm u A o=>rename_i b off cap;obtain⟨a,ha⟩:=o;simp only[Value.slice.injEq]at ha;obtain⟨_,_,rfl⟩:=ha;obtain⟨h1,l⟩:=q.fG (some (b,off)) elems.length e (fun y=>by cases y);refine⟨_,h1,l,.ah vs hl hm (fun i j a b=>(u i j a b).mono h1) A ⟨⟨some (b,off),elems.length,elems.length,e⟩,by simp[Gh.fG],rfl,Nat.le_refl _,fun _ =>rfl⟩⟩
theorem Bg (A:Inv P G σ w) {t H ty:TypeId}{s x:AV}{vs D:Value}(v:aU P G s vs) (J:aU P G x D) (h:lE P σ t H s x K):
 Out P G K Pn (((do pure (Next.value (←Builtin.append_ #[t,H] ty #[vs,D]))):Sem Next).run P w):=by
 unfold lE at h;split at h
 ·rename_i e he;obtain⟨ai,u,E,h⟩:=h;have hu:=dA he;obtain⟨it,z,Y,hz,T⟩:=cR u;have X:aU P G (az P e) z:=by rw[T];exact fq z
  have S:z.cells.size=P.cellsOf e:=by rw[←E];exact(fx X u).1
  split at h
  ·rename_i xs U;have j:∀(G:Gh) (σ:AS) (elems:List AV) (o:Nat) (nil:Bool),Inv P G σ w→aU P G x D→aU P G (.ah e elems (.tok o) nil) vs→σ o=some (.tok elems.length)→
    (elems.length+xs.length)*P.bytesOf e≤fF (P.bytesOf e)→elems.length+xs.length≤140737488355328→
    ∃F w' G',(Builtin.append_ #[t,H] ty #[vs,D]).run P w= .ok F w'∧G.Le G'∧Inv P G' (σ.set o (.tok (elems.length+xs.length))) w'∧aU P G' (.ah e (elems++xs) (.tok o) (nil&&xs.isEmpty)) F:=by
    intro G σ elems o nil A J v V h1 q;obtain⟨news,s1,s2⟩:=xV A u E J U;exact A.append hu Y hz S (by omega) v V s1 s2 h1 q
   have l:∀(elems:List AV) (nil:Bool),aU P G (.ah e elems .full nil) vs→(elems.length+xs.length)*P.bytesOf e≤fF (P.bytesOf e)→elems.length+xs.length≤140737488355328→
    (∀o,σ o=none→K (.ah e (elems++xs) (.tok o) (nil&&xs.isEmpty)) (σ.set o (.tok (elems.length+xs.length))))→
    Out P G K Pn (((do pure (Next.value (←Builtin.append_ #[t,H] ty #[vs,D]))):Sem Next).run P w):=by
    intro elems nil v h1 q y;obtain⟨r,Z,m2,m3⟩:=v.fG A;obtain⟨F,w',G',O,M,I,L⟩:=j (G.fG r) _ elems G.top nil m2 (J.mono Z) m3 (by simp) h1 q;rw[AS.set_set]at I;exact Out.value O (Z.trans M) I L (y _ A.fresh)
   split at h
   ·obtain⟨h1,q,y⟩:=h;cases v;have:=l [] true (.jw ⟨none,rfl⟩) (by simpa using h1) (by simpa using q);simp only[List.nil_append,List.length_nil,Nat.zero_add,Bool.true_and]at this;exact this y
   ·rename_i e' elems nil;obtain⟨rfl,h1,q,y⟩:=h;exact l elems nil v h1 q y
   ·rename_i e' elems o nil;obtain⟨rfl,h1,q,y,h4⟩:=h;obtain⟨F,w',G',O,M,I,L⟩:=j G σ elems o nil A J v y h1 q;exact Out.value O M I L h4
   ·exact h.elim
  ·exact h.elim
 ·exact h.elim
def bU (P:Program) (σ:AS) (e:TypeId) (x:AV):Option (Nat×List AV):=
 match x with
 |.dg id off len _ =>match σ id with
  |some (.cells _ cs)=>if off+len*P.cellsOf e≤cs.length then some (len,(cs.drop off).take (len*P.cellsOf e))else none
  | _ =>none
 |.ah j xs _ _ =>if j=e∧P.cellsOf e=1∧xs.all AV.one=true then some (xs.length,xs)else none
 | _ =>none
def fK (P:Program) (σ:AS) (t:TypeId) (x y:AV) (K:AV→AS→Prop):Prop:=
 match bC P t with
 |some e=>match x with
  |.dg id off len _ =>match σ id with
   |some (.cells ty cs)=>P.cellsOf e≠0∧off+len*P.cellsOf e≤cs.length∧(match bU P σ e y with
    |some (m,j)=>K (.sc (.int .i64 (Nat.min m len:Nat))) (σ.set id (.cells ty (cs.take off++j.take (Nat.min m len*P.cellsOf e)++cs.drop (off+(j.take (Nat.min m len*P.cellsOf e)).length))))
    |none=>False)
   | _ =>False
  | _ =>False
 |none=>False
theorem kh {v:AV}(h:v.one=true):v.cells= [v]:=by cases v<;>first|rfl|(simp[AV.one]at h)
theorem Cz (I:Inv P G σ w) {e:TypeId}{y:AV}{u:Value}{m:Nat}{q:List AV}(F:aU P G y u) (h:bU P σ e y=some (m,q)):
 (Builtin.lenOf u).run P w= .ok m w∧q.length=m*P.cellsOf e∧ ∀n,n≤m→ ∃vs:List Value,vs.length=n*P.cellsOf e∧(Builtin.firstCells (P.cellsOf e) n u).run P w= .ok vs.toArray w∧
  ∀k,k<n*P.cellsOf e→aU P G (q.getD k .any) (vs.getD k undef)∧(vs.getD k undef).oneCell'=true:=by
 have mk:∀(a:Addr) (f:Nat→Value) (n:Nat),(∀k,k<n*P.cellsOf e→w.cell? (a.add k)=some (f k)∧aU P G (q.getD k .any) (f k)∧(f k).oneCell'=true)→
  ∃vs:List Value,vs.length=n*P.cellsOf e∧(loadCells a (n*P.cellsOf e)).run P w= .ok vs.toArray w∧ ∀k,k<n*P.cellsOf e→aU P G (q.getD k .any) (vs.getD k undef)∧(vs.getD k undef).oneCell'=true:=by
  intro a f n hf;refine⟨(List.range (n*P.cellsOf e)).map f,by simp,run_loadCells w a _ f (fun j X=>(hf j X).1),fun k l=> ?_⟩;have:((List.range (n*P.cellsOf e)).map f).getD k undef=f k:=by simp[List.getD_eq_getElem?_getD,l]
  rw[this];exact(hf k l).2
 unfold bU at h;split at h
 ·rename_i id off len cap;split at h
  ·rename_i ty cs S;split at h
   ·rename_i J;cases h;obtain⟨b,cur,k1,M,k3,k4⟩:=I.cells _ _ _ S;cases F with
    |dg Z=>
     rw[Z]at k1;obtain rfl:=Option.some.inj k1;refine⟨by simp[Builtin.lenOf],by simp;omega,fun n hn=> ?_⟩;have hle:n*P.cellsOf e≤m*P.cellsOf e:=Nat.mul_le_mul_right _ hn;obtain⟨vs,E,D,A⟩:=mk ⟨_,off,none⟩ (fun k=>cur.getD (off+k) undef) n (fun k l=>by
      rw[Addr.add_lit];refine⟨gv M (by omega),?_,(k4 _ (by omega)).2⟩;have e1:((cs.drop off).take (m*P.cellsOf e)).getD k .any=cs.getD (off+k) .any:=by simp only[List.getD_eq_getElem?_getD];rw[List.getElem?_take_of_lt (by omega),List.getElem?_drop]
      rw[e1];exact(k4 _ (by omega)).1)
     exact⟨vs,E,by simpa[Builtin.firstCells]using D,A⟩
   ·cases h
  ·cases h
 ·rename_i e' xs own nil;split at h
  ·rename_i Y;obtain⟨rfl,o,V⟩:=Y;cases h;cases F with
   |jw U=>exact⟨by simp[Builtin.lenOf],by simp,fun n hn=>⟨[],by simp at hn;simp[hn],by simp[Builtin.firstCells],fun k l=>by simp at hn;simp[hn]at l⟩⟩
   |mZ=>refine⟨by simp[Builtin.lenOf],by simp,fun n hn=>⟨[],by simp at hn;simp[hn],?_,fun k l=>by simp at hn;simp[hn]at l⟩⟩;simp at hn;subst hn;simp[Builtin.firstCells,loadCells,loadCellsFrom]
   |ah vs hl hm T L H=>
    rename_i b off cap;refine⟨by simp[Builtin.lenOf],by simp[o],fun n hn=> ?_⟩;obtain⟨v,E,D,A⟩:=mk ⟨b,off,none⟩ vs n (fun k l=>by
     rw[Addr.add_lit];rw[o,Nat.mul_one]at l;have O:(q.getD k .any).one=true:=by rw[List.getD_eq_getElem?_getD,List.getElem?_eq_getElem (by omega)];exact List.all_eq_true.1 V _ (List.getElem_mem _)
     have:=T k 0 (by omega) (by omega);rw[kh O,o,Nat.mul_one,Nat.add_zero]at this;obtain⟨g1,g2⟩:=I.mem _ _ _ (hm k (by rw[o,Nat.mul_one];omega));exact⟨g1,by simpa using this,g2⟩)
    exact⟨v,E,by simpa[Builtin.firstCells]using D,A⟩
  ·cases h
 ·cases h
theorem FY (I:Inv P G σ w) {t tx ty:TypeId}{x y:AV}{O M:Value}(hx:aU P G x O) (hy:aU P G y M) (h:fK P σ t x y K):
 Out P G K Pn (((do pure (Next.value (←Builtin.copy_ #[t,tx] ty #[O,M]))):Sem Next).run P w):=by
 unfold fK at h;split at h
 ·rename_i e he;split at h
  ·rename_i id off len cap;split at h
   ·rename_i Z cs V;obtain⟨J,X,h⟩:=h;split at h
    ·rename_i m L q;have hu:=dA he;obtain⟨inf,D,F,_⟩:=bz (P:=P) (t:=e) J;obtain⟨hlen,am,l⟩:=Cz I hy q;obtain⟨vs,q1,T,S⟩:=l (Nat.min m len) (Nat.min_le_left _ _);have ak:Nat.min m len*P.cellsOf e≤len*P.cellsOf e:=Nat.mul_le_mul_right _ (Nat.min_le_right _ _);have ai:Nat.min m len*P.cellsOf e≤m*P.cellsOf e:=Nat.mul_le_mul_right _ (Nat.min_le_left _ _);cases hx with
     |dg Y=>
      rename_i b;obtain⟨b',cur,k1,U,k3,k4⟩:=I.cells _ _ _ V;rw[Y]at k1;obtain rfl:=Option.some.inj k1;have o:=run_storeCells_cells (P:=P) b off vs 0 w
       (fun j hj=>by rw[Nat.add_zero,gv U (by omega)];rfl)
       (fun j hj=>by simp[World.frozen?,U])
       (fun u E=>by obtain⟨k,H,rfl⟩:=List.getElem_of_mem E;have:=(S k (by omega)).2;simpa[List.getD_eq_getElem?_getD,H]using this)
      simp only[Nat.add_zero]at o;refine Out.value (v:=goInt (Nat.min m len:Nat)) (w':=w.setCells b off vs) ?_ (.refl G) (I.store V off vs (L.take (Nat.min m len*P.cellsOf e)) (by simp;omega) (by omega) (fun k H=> ?_) b Y) (.sc _) h
      ·rw[←F]at T;simp[Builtin.copy_,run_underlying hu,hlen,sizeOf,run_typeInfo w D,T,o]
      ·simp only[List.length_take]at H;have A:k<Nat.min m len*P.cellsOf e:=by omega
       have e1:(L.take (Nat.min m len*P.cellsOf e)).getD k .any=L.getD k .any:=by simp only[List.getD_eq_getElem?_getD];rw[List.getElem?_take_of_lt A]
       rw[e1];exact S k A
    ·exact h.elim
   ·exact h.elim
  ·exact h.elim
 ·exact h.elim
def bA (P:Program) (σ:AS) (b:Builtin) (ts:List TypeId) (args:List AV) (K:AV→AS→Prop):Prop:=
 match b,ts,args with
 |.len,[t],[x]=>iE P σ t x fun v=>K v σ
 |.append,[t,j],[s,x]=>lE P σ t j s x K
 |.copy,[t,_],[x,y]=>fK P σ t x y K
 |.min,_,[.sc (.int k a),.sc (.int k' b)]=>K (.sc (.int k (if b<a then b else a))) σ
 |.max,_,[.sc (.int k a),.sc (.int k' b)]=>K (.sc (.int k (if a<b then b else a))) σ
 | _,_,_ =>False
theorem uv {α:Type}{a:Array α}{x y:α}(h:a.toList= [x,y]):a= #[x,y]:=by apply Array.ext';rw[h]
theorem B5 {α:Type}{a:Array α}{x:α}(h:a.toList= [x]):a= #[x]:=by apply Array.ext';rw[h]
theorem y9 (y:Inv P G σ w) {b:Builtin}{ts:Array TypeId}{ty:TypeId}{cs:Array Bool}{args:Array Operand}{s:Fr}{ρ:Operand→Value}(u:∀x,aU P G (ev s x) (ρ x))
 (h:bA P σ b ts.toList (args.toList.map (ev s)) K):Out P G K Pn ((builtin b ts ty cs (args.map ρ)).run P w):=by
 unfold bA at h;split at h
 ·rename_i t x h1 j;obtain rfl:=B5 h1;obtain⟨o,rfl⟩:∃o,args= #[o]:=by
   cases hl:args.toList with
   |nil=>rw[hl]at j;simp at j
   |cons o r=>rw[hl]at j;simp at j;obtain⟨_,rfl⟩:=j;exact⟨o,B5 hl⟩
  simp at j;subst j;have e:(#[o]:Array Operand).map ρ= #[ρ o]:=by simp
  rw[e];exact IX (ty:=ty) y (u o) h
 ·rename_i t F a x h1 j;obtain rfl:=uv h1;obtain⟨q,l,rfl⟩:∃q l,args= #[q,l]:=by
   cases hl:args.toList with
   |nil=>rw[hl]at j;simp at j
   |cons o r=>
    cases r with
    |nil=>rw[hl]at j;simp at j
    |cons v r=>rw[hl]at j;simp at j;obtain⟨_,_,rfl⟩:=j;exact⟨o,v,uv hl⟩
  simp at j;obtain⟨rfl,rfl⟩:=j;have e:(#[q,l]:Array Operand).map ρ= #[ρ q,ρ l]:=by simp
  rw[e];exact Bg (ty:=ty) y (u q) (u l) h
 ·rename_i t F a x h1 j;obtain rfl:=uv h1;obtain⟨q,l,rfl⟩:∃q l,args= #[q,l]:=by
   cases hl:args.toList with
   |nil=>rw[hl]at j;simp at j
   |cons o r=>
    cases r with
    |nil=>rw[hl]at j;simp at j
    |cons v r=>rw[hl]at j;simp at j;obtain⟨_,_,rfl⟩:=j;exact⟨o,v,uv hl⟩
  simp at j;obtain⟨rfl,rfl⟩:=j;have e:(#[q,l]:Array Operand).map ρ= #[ρ q,ρ l]:=by simp
  rw[e];exact FY (ty:=ty) y (u q) (u l) h
 all_goals first|exact h.elim|skip
 all_goals
  rename_i k a k' E j;obtain⟨q,l,rfl⟩:∃q l,args= #[q,l]:=by
   cases hl:args.toList with
   |nil=>rw[hl]at j;simp at j
   |cons o r=>
    cases r with
    |nil=>rw[hl]at j;simp at j
    |cons v r=>rw[hl]at j;simp at j;obtain⟨_,_,rfl⟩:=j;exact⟨o,v,uv hl⟩
  simp at j;obtain⟨I,H⟩:=j;have D:=u q;have A:=u l;rw[I]at D;rw[H]at A;have e:(#[q,l]:Array Operand).map ρ= #[ρ q,ρ l]:=by simp
  rw[e];generalize ρ q=v1 at D⊢;generalize ρ l=v2 at A⊢;cases D;cases A
 ·exact Out.pure y (s:=Builtin.min_ ts ty #[.int k a,.int k' E]) (by simp[Builtin.min_,Builtin.min2]) (.sc _) h
 ·exact Out.pure y (s:=Builtin.max_ ts ty #[.int k a,.int k' E]) (by simp[Builtin.max_,Builtin.max2]) (.sc _) h
end Go.AW
namespace Go.AW
variable {P:Program} {G:Gh} {σ:AS} {w:World} {K Pn:AV→AS→Prop}
theorem Inv.Eb (h:Inv P G σ w) (o:Obj) (zi:cL) (l:zi.Ch=true) (u:F3 (G.bind w.heap.size) (w.alloc o) zi w.heap.size):
 ∃G',G.Le G'∧G'.inj G.top=some w.heap.size∧Inv P G' (σ.set G.top zi) (w.alloc o):=by
 have hle:=G.ra w.heap.size (h.top _ (Nat.le_refl _)).1;have q:=h.bind o;refine⟨_,hle,by simp[Gh.bind],q.below,q.base,q.mem,q.top,(fun i b e=>⟨(q.dj i b e).1,(q.dj i b e).2.1,fun ty cs hn=>(q.dj i b e).2.2 ty cs (by
  by_cases j:i=G.top
  ·subst j;simp[AS.set]at hn;subst hn;cases l
  ·simpa[AS.set,j]using hn)⟩),q.eZ,?_,?_,?_,?_,q.own⟩
 ·intro i ty cs e;by_cases j:i=G.top
  ·simp[AS.set,j]at e;subst e;cases l
  ·simp[AS.set,j]at e;exact q.cells i ty cs e
 ·intro i es e;by_cases j:i=G.top
  ·simp[AS.set,j]at e;subst e;cases l
  ·simp[AS.set,j]at e;exact q.maps i es e
 ·intro i s p e;by_cases j:i=G.top
  ·subst j;simp[AS.set]at e;subst e;exact⟨w.heap.size,by simp[Gh.bind],u⟩
  ·simp[AS.set,j]at e;exact q.dQ i s p e
 ·intro i n e;by_cases j:i=G.top
  ·simp[AS.set,j]at e;subst e;cases l
  ·simp[AS.set,j]at e;exact q.tok i n e
theorem Inv.LC (h:Inv P G σ w) {id b:Nat}{J:Obj}(F:G.inj id=some b) (hw:w.heap[b]? =some J) (ab:∀c e f,J≠ .cells c e f) (T:∀ms cl,J≠ .map ms cl) (o:Obj) (zi:cL) (A:zi.Ch=true)
 (S:F3 G { w with heap:=w.heap.setIfInBounds b o } zi b):
 Inv P G (σ.set id zi) { w with heap:=w.heap.setIfInBounds b o } :=by
 have U:=dD hw;have hB:=h.dj id b F;have other:∀k,k≠b→(w.heap.setIfInBounds b o)[k]? =w.heap[k]? :=fun k Z=>Array.getElem?_setIfInBounds_ne (fun e=>Z e.symm);have same:(w.heap.setIfInBounds b o)[b]? =some o:=by simp[U]
 have I:∀o,G.mem b o=none:=by
  intro o';cases hm:G.mem b o' with
  |none=>rfl
  |some v=>
   have:=(h.mem b o' v hm).1;simp only[World.cell?,hw]at this;cases J with
   |cells c e f=>exact absurd rfl (ab c e f)
   | _ =>simp at this
 refine⟨⟨h.below.os,h.below.tape,h.below.output,by simpa using h.below.size,fun k Z=>by
  have V:k≠b:=by have:=hB.1;omega
  rw[show({ w with heap:=w.heap.setIfInBounds b o } :World).heap[k]? =(w.heap.setIfInBounds b o)[k]? from rfl,other k V];exact h.below.block k Z⟩,h.base,?_,h.top,?_,h.eZ,?_,?_,?_,?_,?_⟩
 ·intro L o v em;have l:L≠b:=by intro u;subst u;rw[I o]at em;cases em
  exact⟨by rw[World.cell?_of_block (w:=w) (other L l)];exact(h.mem L o v em).1,(h.mem L o v em).2⟩
 ·intro j c q;have:=h.dj j c q;refine⟨this.1,by simpa using this.2.1,fun D cs' hn=> ?_⟩;by_cases y:j=id
  ·subst y;simp[AS.set]at hn;subst hn;cases A
  ·exact this.2.2 D cs' (by simpa[AS.set,y]using hn)
 ·intro j D cs' q;have y:j≠id:=by intro u;subst u;simp[AS.set]at q;subst q;cases A
  simp[AS.set,y]at q;obtain⟨c,M,k1,E,H⟩:=h.cells j D cs' q;have l:c≠b:=fun u=>y (h.eZ j id b (u ▸ k1) F);exact⟨c,M,k1,by rw[other c l];exact E,H⟩
 ·intro j ac q;have y:j≠id:=by intro u;subst u;simp[AS.set]at q;subst q;cases A
  simp[AS.set,y]at q;obtain⟨c,O,cl,k1,E,H⟩:=h.maps j ac q;have l:c≠b:=fun u=>y (h.eZ j id b (u ▸ k1) F);exact⟨c,O,cl,k1,by rw[other c l];exact E,H⟩
 ·intro j s p q;by_cases y:j=id
  ·subst y;simp[AS.set]at q;subst q;exact⟨b,F,S⟩
  ·simp[AS.set,y]at q;obtain⟨c,k1,E⟩:=h.dQ j s p q;have l:c≠b:=fun u=>y (h.eZ j id b (u ▸ k1) F);exact⟨c,k1,E.jk (fun _ _ h=>h) (fun o ho=>by rw[other c l];exact ho) (fun m ms cl hm=>by rw[other m (fun e=>by subst e;rw[hw]at hm;exact T _ _ (Option.some.inj hm))];exact hm)⟩
 ·intro j n q;have y:j≠id:=by intro u;subst u;simp[AS.set]at q;subst q;cases A
  simp[AS.set,y]at q;exact h.tok j n q
 ·intro t r et;obtain⟨k1,E,H⟩:=h.own t r et;refine⟨k1,E,fun c o ea k Y X=> ?_⟩;obtain⟨m1,m2,m3,m4,m5,m6,m7⟩:=H c o ea k Y X;have l:c≠b:=fun u=>m4 id (u ▸ F);refine⟨?_,?_,m3,m4,m5,by simpa using m6,m7⟩
  ·rw[World.cell?_of_block (w:=w) (other c l)];exact m1
  ·rw[World.frozen?_of_block (w:=w) (other c l)];exact m2
def lU (P:Program) (σ:AS) (t:TypeId) (x:AV) (K:AV→AS→Prop):Prop:=
 match x with
 |.sc (.string b)=>P.underlying t=some .string∧ ∀id,σ id=none→K (.ptr id 0) (σ.set id (.gA b 0))
 |.mp b9=>(match P.underlying t,σ b9 with
  |some (.map _ _),some (.map es)=> ∀id,σ id=none→K (.ptr id 0) (σ.set id (.jd b9 es.length []))
  | _,_ =>False)
 | _ =>False
def xh (id:Nat) (b:ByteArray) (pos:Nat) (σ:AS) (K:AV→AS→Prop):Prop:=
 if pos<b.size then K (.cp [.sc (.bool true),.sc (.int .i64 pos),.sc (.int .i32 (Utf8.decode b pos).1)]) (σ.set id (.gA b (pos+(Utf8.decode b pos).2)))else K (.cp [.sc (.bool false)]) σ
def Ab (id b9 j:Nat) (done:List Nat) (σ:AS) (K:AV→AS→Prop):Prop:=
 match σ b9 with
 |some (.map es)=>es.length=j∧((∀k,k<j→k∈done)→K (.cp [.sc (.bool false)]) σ)∧
  ∀k,k<j→k ∉ done→K (.cp [.sc (.bool true),(es.getD k (.any,.any)).1,(es.getD k (.any,.any)).2]) (σ.set id (.jd b9 j (k::done)))
 | _ =>False
def ri (σ:AS) (x:AV) (str:Bool) (K:AV→AS→Prop):Prop:=
 match x,str with
 |.ptr id off,false=>off=0∧(match σ id with
  |some (.jd b9 j done)=>Ab id b9 j done σ K
  | _ =>False)
 |.ptr id off,true=>off=0∧(match σ id with
  |some (.gA b pos)=>xh id b pos σ K
  | _ =>False)
 | _,_ =>False
theorem CN (j:Inv P G σ w) {t:TypeId}{x:AV}{v:Value}(y:aU P G x v) (h:lU P σ t x K):
 Out P G K Pn (((do pure (Next.value (←Instr.range t v))):Sem Next).run P w):=by
 unfold lU at h;split at h
 ·rename_i b;cases y;obtain⟨G',g1,g2,g3⟩:=j.Eb (.stringIter b 0) (.gA b 0) rfl (heap_alloc_new w _);refine Out.value (v:= .pointer (some ⟨w.heap.size,0,none⟩)) ?_ g1 g3 (.ptr g2) (h.2 _ j.fresh);simp[Instr.range,run_underlying h.1,Sem.run_bind,Result.andThen]
 ·rename_i b9;split at h
  ·rename_i E I es hu l;obtain⟨m,ms,clock,h1,u,⟨H,D⟩,F⟩:=j.maps b9 es l;cases y with
   |mp A=>
    rw[h1]at A;obtain rfl:=Option.some.inj A;have o:=dD u;obtain⟨G',g1,g2,g3⟩:=j.Eb (.mapIter (some m) clock #[] clock) (.jd b9 es.length []) rfl
     ⟨m,clock,#[],clock,ms,clock,heap_alloc_new w _,(G.ra w.heap.size (j.top _ (Nat.le_refl _)).1).inj _ _ h1,by rw[eI w _ o];exact u,
      by omega,Nat.le_refl _,Nat.le_refl _,D,fun k e q=>⟨fun _ =>D.1 k e q,fun _ =>by have:=(Array.getElem?_eq_some_iff.1 q).1;omega⟩,fun k e q _ =>by simp,by simp,by simp,by omega,by simp⟩
    refine Out.value (v:= .pointer (some ⟨w.heap.size,0,none⟩)) ?_ g1 g3 (.ptr g2) (h _ j.fresh);simp[Instr.range,run_underlying hu,Sem.run_bind,Result.andThen,MapKept.run_getObj_map u]
  ·exact h.elim
 ·exact h.elim
theorem uD {n:Nat}(hn:0<n):∃i w',(choose (.mapNext n)).run P w= .ok i w'∧i<n∧(w'=w∨w'=w.drew):=by
 by_cases h1:n≤1
 ·exact⟨0,w,by simp[choose,Sem.run,Question.forced,h1],hn,.inl rfl⟩
 ·exact⟨_,w.drew,by simp[choose,Sem.run,Question.forced,h1];rfl,by simp[Question.cut];exact Nat.mod_lt _ hn,.inr rfl⟩
theorem AT {ms:Array MapEntry}{seen:Array Nat}{since:Nat}(j:∀e,e∈ms→e.born<since):
 (ms.filter fun e=> !seen.contains e.born).filter (fun e=>decide (e.born<since))=(ms.filter fun e=> !seen.contains e.born)∧
 (ms.filter fun e=> !seen.contains e.born).filter (fun e=>decide (e.born≥since))= #[]:=by
 constructor
 ·rw[Array.filter_eq_self];intro e he;have:=j e (Array.mem_filter.1 he).1;simpa using this
 ·rw[Array.filter_eq_empty_iff];intro e he;have:=j e (Array.mem_filter.1 he).1;simp;omega
theorem wq {t:TypeId}{c m since last clock:Nat}{seen:Array Nat}{ms:Array MapEntry}(y:w.heap[c]? =some (.mapIter (some m) since seen last)) (v:w.heap[m]? =some (.map ms clock))
 (j:(!seen.isEmpty&& !ms.isEmpty&&ms.all fun e=>decide (e.born≥last))=false) (o:∀e,e∈ms→e.born<since) (u:(ms.filter fun e=> !seen.contains e.born).isEmpty=true):
 (Instr.next (.pointer (some ⟨c,0,none⟩)) false t).run P w= .ok (.tuple #[.bool false]) w:=by
 have l:(getObj c).run P w= .ok (.mapIter (some m) since seen last) w:=by simp[getObj,Sem.run,y]
 have q:(getObj m).run P w= .ok (.map ms clock) w:=MapKept.run_getObj_map v;obtain⟨D,A⟩:=AT (seen:=seen) o;rw[Array.isEmpty_iff]at u;have hf:(Question.mapNext 1).forced=true:=rfl;simp only[Instr.next,Sem.run_bind,l,Result.andThen_ok,q];rw[j];simp only[u];simp[hf,Sem.run_bind,Result.andThen]
theorem wo {t:TypeId}{c m since last clock:Nat}{seen:Array Nat}{ms:Array MapEntry}(I:w.heap[c]? =some (.mapIter (some m) since seen last)) (L:w.heap[m]? =some (.map ms clock))
 (j:(!seen.isEmpty&& !ms.isEmpty&&ms.all fun e=>decide (e.born≥last))=false) (D:∀e,e∈ms→e.born<since) (H:(ms.filter fun e=> !seen.contains e.born).isEmpty=false):
 ∃e w',(w'=w∨w'=w.drew)∧e∈(ms.filter fun e=> !seen.contains e.born)∧
  (Instr.next (.pointer (some ⟨c,0,none⟩)) false t).run P w= .ok (.tuple #[.bool true,e.key,e.val]) { w' with heap:=w'.heap.setIfInBounds c (.mapIter (some m) since (seen.push e.born) clock) } :=by
 have y:(getObj c).run P w= .ok (.mapIter (some m) since seen last) w:=by simp[getObj,Sem.run,I]
 have E:(getObj m).run P w= .ok (.map ms clock) w:=MapKept.run_getObj_map L;obtain⟨O,M⟩:=AT (seen:=seen) D;generalize hl:(ms.filter fun e=> !seen.contains e.born)=left at*;have u:0<left.size:=by
  rcases Nat.eq_zero_or_pos left.size with h|h
  ·rw[Array.size_eq_zero_iff]at h;subst h;simp at H
  ·exact h
 obtain⟨i,w',F,v,l⟩:=uD (P:=P) (w:=w) u;have J:w'.heap=w.heap:=by rcases l with rfl|rfl<;>rfl
 refine⟨left[i],w',l,Array.getElem_mem v,?_⟩;have q:∀o,(setObj c o).run P w'= .ok () { w' with heap:=w'.heap.setIfInBounds c o } :=fun o=>by simp[setObj,Sem.run,J,I]
 simp only[Instr.next,Sem.run_bind,y,Result.andThen_ok,E];rw[j];simp only[hl,O,M,H];have A:(if (Question.mapNext left.size).forced=true then Result.ok 0 w else Result.ok ((Question.mapNext left.size).cut (w.tape w.drawn (Question.mapNext left.size))) w.drew:Result Nat)=Result.ok i w':=by rw[←F];simp[choose,Sem.run]
 simp[Sem.run_bind,Result.andThen];rw[A];simp[v,Result.andThen,q]
theorem FV (H:Inv P G σ w) {x:AV}{v:Value}{str:Bool}{t:TypeId}(M:aU P G x v) (h:ri σ x str K):
 Out P G K Pn (((do pure (Next.value (←Instr.next v str t))):Sem Next).run P w):=by
 unfold ri at h;split at h
 ·rename_i id off;obtain⟨rfl,h⟩:=h;split at h
  ·rename_i b9 n0 done J;obtain⟨c,h1,m,since,seen,last,ms,clock,y,h3,O,h5,h6,h7,h8,h9,L,ax,av,b0,bv⟩:=H.dQ id _ rfl J;cases M with
   |ptr hb=>
    rw[h1]at hb;obtain rfl:=Option.some.inj hb;unfold Ab at h;split at h
    ·rename_i es S;obtain⟨hn,k1,k2⟩:=h;obtain⟨m',a9,ak,q1,q2,⟨q3,q4⟩,q5⟩:=H.maps b9 es S;rw[h3]at q1;obtain rfl:=Option.some.inj q1;rw[O]at q2;cases q2;have u:∀e,e∈ms→e.born<since:=by intro e he;obtain⟨k,hk,rfl⟩:=Array.getElem_of_mem he;have E:ms[k]? =some ms[k]:=Array.getElem?_eq_getElem hk;exact(h9 k _ E).1 (by omega)
     have q:(!seen.isEmpty&& !ms.isEmpty&&ms.all fun e=>decide (e.born≥last))=false:=by
      cases al:seen.isEmpty with
      |true=>simp
      |false=>
       have V:=av al;have h0:0<ms.size:=by omega
       have D:=u ms[0] (Array.getElem_mem h0);rw[Bool.and_eq_false_iff];right;rw[Bool.eq_false_iff];intro hc;have:=(Array.all_eq_true.1 hc) 0 h0;simp at this;omega
     by_cases hL:(ms.filter fun e=> !seen.contains e.born).isEmpty=true
     ·have A:=wq (P:=P) (t:=t) y O q u hL;refine Out.value A (.refl G) H ?_ (k1 fun k hk=> ?_)
      ·refine .cp [.bool false] rfl fun i l=> ?_
       match i,l with
       |0,_ =>exact .sc _
      ·have j:k<ms.size:=by omega
       have E:ms[k]? =some ms[k]:=Array.getElem?_eq_getElem j;refine(L k _ E hk).1 ?_;rw[Array.isEmpty_iff]at hL;have:=Array.filter_eq_empty_iff.1 hL ms[k] (Array.getElem_mem j);simpa using this
     ·obtain⟨e,w',T,F,A⟩:=wo (P:=P) (t:=t) y O q u (by simpa using hL);rw[Array.mem_filter]at F;obtain⟨Y,X⟩:=F;obtain⟨k,hk,rfl⟩:=Array.getElem_of_mem Y;have E:ms[k]? =some ms[k]:=Array.getElem?_eq_getElem hk;have ab:k<n0:=by omega
      have am:k ∉ done:=fun hd=>by have:=(L k _ E ab).2 hd;rw[this]at X;simp at X
      have hh:w'.heap=w.heap:=by rcases T with rfl|rfl<;>rfl
      have l:Inv P G σ w':=by
       rcases T with rfl|rfl
       ·exact H
       ·exact H.drew
      have D:=dD y;have ar:m≠c:=by rintro rfl;rw[y]at O;cases O
      obtain⟨me,r1,r2,r3⟩:=q5 k (by omega);rw[E]at r1;obtain rfl:=Option.some.inj r1;refine Out.value A (.refl G) (l.LC h1 (by rw[hh];exact y) (by simp) (by simp) _ (.jd b9 n0 (k::done)) rfl ?_) ?_ (k2 k ab am)
      ·refine⟨m,since,seen.push ms[k].born,clock,ms,clock,?_,h3,?_,h5,by omega,Nat.le_refl _,h8,h9,?_,?_,(fun _ =>by omega),by omega,?_⟩
       ·show(w'.heap.setIfInBounds c _)[c]? = _;rw[hh];simp[D]
       ·show(w'.heap.setIfInBounds c _)[m]? = _;rw[hh,Array.getElem?_setIfInBounds_ne (fun e=>ar e.symm)];exact O
       ·intro k' e' j Z;rw[Array.contains_iff_mem,Array.mem_push,List.mem_cons,←Array.contains_iff_mem,L k' e' j Z];constructor
        ·rintro(h|h)
         ·exact .inr h
         ·exact .inl (h8.2 _ _ _ _ j E h)
        ·rintro(rfl|h)
         ·rw[E]at j;cases j;exact .inr rfl
         ·exact .inl h
       ·intro x M;rcases Array.mem_push.1 M with M|rfl
        ·exact ax x M
        ·exact u _ Y
       ·intro k' j;simp at j;subst j;exact⟨ms[k],E,by simp⟩
      ·refine .cp [.bool true,ms[k].key,ms[k].val] rfl fun i l=> ?_
       match i,l with
       |0,_ =>exact .sc _
       |1,_ =>exact r2
       |2,_ =>exact r3
    ·exact h.elim
  ·exact h.elim
 ·rename_i id off;obtain⟨rfl,h⟩:=h;split at h
  ·rename_i b pos J;obtain⟨c,h1,y⟩:=H.dQ id _ rfl J;have y:w.heap[c]? =some (.stringIter b pos):=y;cases M with
   |ptr hb=>
    rw[h1]at hb;obtain rfl:=Option.some.inj hb;unfold xh at h;have I:(getObj c).run P w= .ok (.stringIter b pos) w:=by simp[getObj,Sem.run,y]
    by_cases V:pos<b.size
    ·rw[if_pos V]at h;have U:∀o,(setObj c o).run P w= .ok () { w with heap:=w.heap.setIfInBounds c o } :=fun o=>by simp[setObj,Sem.run,y]
     have D:=dD y;refine Out.value (v:= .tuple #[.bool true,.int .i64 pos,.int .i32 (Utf8.decode b pos).1]) (G':=G) ?_ (.refl G) (H.LC h1 y (by simp) (by simp) (.stringIter b (pos+(Utf8.decode b pos).2)) (.gA b (pos+(Utf8.decode b pos).2)) rfl (by show({ w with heap:=w.heap.setIfInBounds c (.stringIter b (pos+(Utf8.decode b pos).2)) } :World).heap[c]? = _;simp[D])) ?_ h
     ·simp[Instr.next,Sem.run_bind,I,Result.andThen,V,U,goInt]
     ·refine .cp [.bool true,.int .i64 pos,.int .i32 (Utf8.decode b pos).1] rfl fun i l=> ?_
      match i,l with
      |0,_ =>exact .sc _
      |1,_ =>exact .sc _
      |2,_ =>exact .sc _
    ·rw[if_neg V]at h;refine Out.value (v:= .tuple #[.bool false]) (G':=G) ?_ (.refl G) H ?_ h
     ·simp[Instr.next,Sem.run_bind,I,Result.andThen,V]
     ·refine .cp [.bool false] rfl fun i l=> ?_
      match i,l with
      |0,_ =>exact .sc _
  ·exact h.elim
 ·exact h.elim
def so (σ:AS) (x:AV) (K:AV→Prop):Prop:=
 match x with
 |.ptr id off=>off=0∧(match σ id with
  |some (.jd b9 j (k:: _))=>(match σ b9 with
   |some (.map es)=>es.length=j∧K (.cp [(es.getD k (.any,.any)).1,(es.getD k (.any,.any)).2])
   | _ =>False)
  | _ =>False)
 | _ =>False
theorem CS (H:Inv P G σ w) {x:AV}{v:Value}(hx:aU P G x v) (h:so σ x fun v=>K v σ):
 Out P G K Pn (((do pure (Next.value (←Instr.entry v))):Sem Next).run P w):=by
 unfold so at h;split at h
 ·rename_i id off;obtain⟨rfl,h⟩:=h;split at h
  ·rename_i b9 n0 k rest D;obtain⟨c,h1,m,since,seen,last,ms,clock,h2,h3,V,h5,h6,h7,h8,h9,a0,ay,ax,av,M⟩:=H.dQ id _ rfl D;cases hx with
   |ptr U=>
    rw[h1]at U;obtain rfl:=Option.some.inj U;split at h
    ·rename_i es o;obtain⟨hn,hk⟩:=h;obtain⟨m',ab,A,T,S,⟨q3,q4⟩,Z⟩:=H.maps b9 es o;rw[h3]at T;obtain rfl:=Option.some.inj T;rw[V]at S;cases S;obtain⟨e,g1,g2⟩:=M k rfl;have ai:k<ms.size:=(Array.getElem?_eq_some_iff.1 g1).1;have L:clock=last:=by omega
     obtain⟨me,O,Y,X⟩:=Z k (by omega);rw[g1]at O;obtain rfl:=Option.some.inj O;have u:(getObj c).run P w= .ok (.mapIter (some m) since seen last) w:=by simp[getObj,Sem.run,h2]
     have I:(getObj m).run P w= .ok (.map ms clock) w:=MapKept.run_getObj_map V;have l:ms.find? (fun x=>x.born==e.born)=some e:=by
      cases hf:ms.find? (fun x=>x.born==e.born)with
      |none=>have:=Array.find?_eq_none.1 hf e (Array.mem_of_getElem? g1);simp at this
      |some y=>
       have hp:=Array.find?_some hf;have q:=Array.mem_of_find?_eq_some hf;obtain⟨j,hj,E⟩:=Array.getElem_of_mem q;have J:ms[j]? =some y:=by rw[Array.getElem?_eq_getElem hj,E]
       have:=h8.2 j k y e J g1 (by simpa using hp);subst this;rw[g1]at J;exact J.symm ▸ rfl
     refine Out.value (v:= .tuple #[e.key,e.val]) (G':=G) ?_ (.refl G) H ?_ hk
     ·simp[Instr.entry,Sem.run_bind,u,Result.andThen,g2,I,L,l]
     ·refine .cp [e.key,e.val] rfl fun i F=> ?_
      match i,F with
      |0,_ =>exact Y
      |1,_ =>exact X
    ·exact h.elim
  ·exact h.elim
 ·exact h.elim
def eM (n:Nat) (v:AV):List AV:=(List.replicate n v).flatMap (·.cells)
theorem pf {v:AV} :∀(n:Nat),(eM n v).length=n*v.cells.length∧ ∀i j,i<n→j<v.cells.length→(eM n v).getD (i*v.cells.length+j) .any=v.cells.getD j .any:=by
 intro n;induction n with
 |zero=>exact⟨by simp[eM],fun i j q _ =>by omega⟩
 |succ n l=>
  have e:eM (n+1) v=v.cells++eM n v:=by simp[eM,List.replicate_succ]
  rw[e];refine⟨by rw[List.length_append,l.1,Nat.add_mul];omega,fun i j q o=> ?_⟩;cases i with
  |zero=>rw[Nat.zero_mul,Nat.zero_add,aQ _ _ _ o]
  |succ i=>
   have:(i+1)*v.cells.length+j=v.cells.length+(i*v.cells.length+j):=by rw[Nat.add_mul];omega
   rw[this,bk _ _ _ (by omega)];have u:v.cells.length+(i*v.cells.length+j)-v.cells.length=i*v.cells.length+j:=by omega
   rw[u];exact l.2 i j (by omega) o
def iz (P:Program) (σ:AS) (t:TypeId) (len cap:AV) (K:AV→AS→Prop):Prop:=
 match bC P t,len,cap with
 |some e,.sc (.int _ n),.sc (.int _ c)=>n=c∧0≤n∧n≤1000000∧P.cellsOf e≠0∧(P.bytesOf e:Int)*n≤8000000∧(az P e).laid=true∧(az P e).cells.length=P.cellsOf e∧
  ∀id,σ id=none→K (.dg id 0 n.toNat n.toNat) (σ.set id (.cells e (eM n.toNat (az P e))))
 | _,_,_ =>False
theorem um {n:Int}(h0:0≤n) (h1:n≤1000000):IntKind.i64.wrap n=n:=by simp[IntKind.wrap,IntKind.bits,IntKind.signed];split<;>omega
theorem Gd {z:Value}{e:TypeId}{m:Nat}(q:z.cells.size=m) (n:Nat) {zero:Array Value}(hzero:zero=if n*m=0 then #[]else z.cells) (i j:Nat) (v:i<n) (u:j<m):
 (((Array.range (n*m)).map (zero[· %zero.size]!))).getD (i*m+j) undef=z.cells.getD j undef:=by
 have o:i*m+j<n*m:=by have:(i+1)*m≤n*m:=Nat.mul_le_mul_right m v;rw[Nat.add_mul]at this;omega
 have h0:¬n*m=0:=by omega
 rw[if_neg h0]at hzero;subst hzero;have y:(i*m+j)%z.cells.size=j:=by rw[q,Nat.add_comm,Nat.add_mul_mod_self_right,Nat.mod_eq_of_lt u]
 have l:j<z.cells.size:=by omega
 have A:z.cells[j]! =z.cells[j]:=by simp[l]
 simp[Array.getD,o,y,l]
theorem vQ (V:Inv P G σ w) {t:TypeId}{len cap:AV}{S T:Value}(hl:aU P G len S) (hc:aU P G cap T) (h:iz P σ t len cap K):
 Out P G K Pn (((do pure (Next.value (←Instr.makeSlice t S T))):Sem Next).run P w):=by
 unfold iz at h;split at h
 ·rename_i e k1 n q c he;obtain⟨rfl,h0,h1,h2,h3,h4,I,h7⟩:=h;cases hl;cases hc;have hu:=dA he;obtain⟨it,z,j,hz,u⟩:=cR h4;have J:it.size=P.cellsOf e:=by simp[Program.cellsOf,j]
  have L:it.bytes=P.bytesOf e:=by simp[Program.bytesOf,j]
  have hw:IntKind.i64.wrap n=n:=um h0 h1;obtain⟨O,M⟩:=fx (fq (P:=P) (G:=G) z) (by rw[←u];exact h4);rw[←u,I]at O M;obtain⟨N,rfl⟩:∃N:Nat,n=N:=⟨n.toNat,by omega⟩;simp only[Int.toNat_natCast]at h7;have b1:(N:Int)*P.bytesOf e≤8000000:=by rw[Int.mul_comm];exact h3
  have b2:((N*P.bytesOf e:Nat):Int)≤8000000:=by rw[Int.natCast_mul];exact b1
  have l:¬(N*P.bytesOf e>roomBytes):=by unfold roomBytes;omega
  have X:¬((2:Int)^48<(P.bytesOf e:Int)*N):=by omega
  have A:¬((N:Int)<0):=by omega
  let zero:Array Value:=if N*P.cellsOf e=0 then #[]else z.cells
  let init:Array Value:=(Array.range (N*P.cellsOf e)).map (zero[· %zero.size]!)
  have y:(Instr.makeSlice t (.int k1 N) (.int q N)).run P w= .ok (.slice (some ⟨w.heap.size,0,none⟩) N N) (w.alloc (.cells init e)):=by
   simp only[Instr.makeSlice,Sem.run_bind,run_underlying hu,Result.andThen_ok,asInt,asIntOf,Sem.run_pure,run_typeInfo w j,hw,L];simp only[askRoom,Int.toNat_natCast,l,if_false,sizeOf];have o:¬((281474976710656:Int)<(P.bytesOf e:Int)*N):=by omega
   simp[A,o,Sem.run_bind,Result.andThen,run_typeInfo w j,J];by_cases D:N*P.cellsOf e=0
   ·simp[D,zero,init,newRow,Result.andThen]
   ·simp[D,zero,init,zeroValue,run_typeInfo w j,hz,newRow,Sem.run_bind,Result.andThen]
  have F:∀k,k<N*P.cellsOf e→k/P.cellsOf e<N∧k%P.cellsOf e<P.cellsOf e∧(k/P.cellsOf e)*P.cellsOf e+k%P.cellsOf e=k:=fun k H=>
   ⟨Nat.div_lt_of_lt_mul (by rw[Nat.mul_comm];exact H),Nat.mod_lt _ (by omega),by rw[Nat.mul_comm];exact Nat.div_add_mod k _⟩
  have f1:=(pf (v:=az P e) N).1;rw[I]at f1;obtain⟨G',hle,E,hinv⟩:=V.jr e init (eM N (az P e)) (by rw[f1];simp[init]) (fun k H=>by rw[f1]at H;obtain⟨k1,q,U⟩:=F k H;have Z:=(pf (v:=az P e) N).2 _ _ k1 (by rw[I];exact q);rw[I,U]at Z;rw[Z];have Y:=Gd (z:=z) (e:=e) O N (zero:=zero) rfl _ _ k1 q;rw[U]at Y;rw[show init.getD k undef= _ from Y];exact M _ q);exact Out.value y hle hinv (.dg E) (h7 _ V.fresh)
 ·exact h.elim
end Go.AW
namespace Go.AW
variable {P:Program} {G:Gh} {σ:AS} {w:World} {K Pn:AV→AS→Prop}
def im (P:Program) (f:FuncId):Bool:=
 match P.funcs[f]? with
 |some fn=>fn.body.isSome&& !(fn.name== "runtime.NumGoroutine")
 |none=>false
theorem oB {f:FuncId}(h:im P f=true) (args:Array Value):(callFunc f args).run P w= .ok (.enter f args) w:=by
 unfold im at h;split at h
 ·rename_i fn hf;simp only[Bool.and_eq_true,Bool.not_eq_true']at h;have l:fn.body.isNone=false:=by
   cases o:fn.body with
   |none=>rw[o]at h;simp at h
   |some c=>rfl
  have hn:¬fn.name= "runtime.NumGoroutine" :=by simpa using h.2
  have j:¬fn.body=none:=by intro e;rw[e]at l;simp at l
  simp[callFunc,hf,hn,j]
 ·cases h
def wJ (P:Program) (G:Gh) (as:List AV) (vs:Array Value):Prop:=vs.size=as.length∧ ∀i,i<as.length→aU P G (as.getD i .any) (vs.getD i undef)
theorem wJ.mono {G':Gh}(hle:G.Le G') {as:List AV}{vs:Array Value}(h:wJ P G as vs):wJ P G' as vs:=⟨h.1,fun i j=>(h.2 i j).mono hle⟩
def jC (P:Program) (G:Gh) (R j:AV→AS→Prop):Ending→World→Prop
 |.returned v,w'=> ∃G' σ' r,G.Le G'∧Inv P G' σ' w'∧aU P G' r v∧R r σ'
 |.panicked [e],w'=>e.recovered=false∧e.goexit=false∧ ∃G' σ' r,G.Le G'∧Inv P G' σ' w'∧aU P G' r e.v∧j r σ'
 | _,_ =>False
structure ad (P:Program) (f:FuncId) (args:List AV) (σ:AS) (R Rp:AV→AS→Prop):Prop where
 body:im P f=true
 run:∀(G:Gh) (w:World) (vals:Array Value),Inv P G σ w→wJ P G args vals→Calls P f vals w (jC P G R Rp)
theorem ad.mono {f:FuncId}{args:List AV}{R l o j:AV→AS→Prop}(h:ad P f args σ R l) (h1:∀r σ',R r σ'→o r σ') (v:∀r σ',l r σ'→j r σ'):ad P f args σ o j:=
 ⟨h.body,fun G w vals u q=>(h.run G w vals u q).mono fun e w' he=>by
  unfold jC at he⊢;split at he
  ·obtain⟨G',σ',r,a,b,c,d⟩:=he;exact⟨G',σ',r,a,b,c,h1 _ _ d⟩
  ·obtain⟨x,y,G',σ',r,a,b,c,d⟩:=he;exact⟨x,y,G',σ',r,a,b,c,v _ _ d⟩
  ·exact he.elim⟩
def iT (P:Program) (s:Fr) (σ:AS) (K Pn:AV→AS→Prop):Op→Prop
 |.move x=>K (ev s x) σ
 |.assign x=>K (ev s x) σ
 |.pick c a b=>match ev s c with|.sc (.bool t)=>K (if t then ev s a else ev s b) σ| _ =>False
 |.alloc e=>qg P σ e K
 |.box e x=>Lh P σ e (ev s x) K
 |.build t parts=>oS P t (parts.toList.map fun p=>(p.1,ev s p.2)) fun v=>K v σ
 |.buildSlice t n parts=>ey P σ t n (parts.toList.map fun p=>(p.1,ev s p.2)) K
 |.load t a=>ew P σ t (ev s a) fun v=>K v σ
 |.store t a x=>oR P σ t (ev s a) (ev s x) fun σ'=>K .any σ'
 |.nilCheck x=>gw (ev s x) fun v=>K v σ
 |.binOp op t x y _ =>eX P op t (ev s x) (ev s y) fun v=>K v σ
 |.unOp op _ x=>Lc op (ev s x) fun v=>K v σ
 |.convert src dst x=>cU P src dst (ev s x) fun v=>K v σ
 |.makeInterface t x=>P.concrete t=true∧K (.lq t (ev s x)) σ
 |.makeFunc f first cap=>K (.fn f (first.toList.map (ev s)) (cap.toList.map (ev s))) σ
 |.makeMap _ r=>r.isNone=true∧ ∀id,σ id=none→K (.mp id) (σ.set id (.map []))
 |.range t x=>lU P σ t (ev s x) K
 |.next it str=>ri σ (ev s it) str K
 |.entry it=>so σ (ev s it) fun v=>K v σ
 |.makeSlice t l c=>iz P σ t (ev s l) (ev s c) K
 |.slice t x lo j mx=>fQ P t (ev s x) (lo.map (ev s)) (j.map (ev s)) (mx.map (ev s)) fun v=>K v σ
 |.fieldAddr t x f=>dR P t (ev s x) f fun v=>K v σ
 |.field t x f=>kM P t (ev s x) f fun v=>K v σ
 |.indexAddr t x i=>cM P t (ev s x) (ev s i) fun v=>K v σ
 |.index t x i=>jP P t (ev s x) (ev s i) fun v=>K v σ
 |.extract x i=>jB (ev s x) i fun v=>K v σ
 |.panic x=>match ev s x with|.lq t v=>Pn (.lq t v) σ| _ =>False
 |.call c=>match c.callee with
  |.builtin b=>bA P σ b c.argTypes.toList (c.args.toList.map (ev s)) K
  | _ =>False
 | _ =>False
theorem Inv.allocMap (h:Inv P G σ w):∃G',G.Le G'∧G'.inj G.top=some w.heap.size∧Inv P G' (σ.set G.top (.map [])) (w.alloc (.map #[] 0)):=by
 have hle:=G.ra w.heap.size (h.top _ (Nat.le_refl _)).1;have l:=h.bind (.map #[] 0);refine⟨_,hle,by simp[Gh.bind],l.below,l.base,l.mem,l.top,(fun i b e=>⟨(l.dj i b e).1,(l.dj i b e).2.1,fun ty cs hn=>(l.dj i b e).2.2 ty cs (by
  by_cases j:i=G.top
  ·subst j;simp[AS.set]at hn
  ·simpa[AS.set,j]using hn)⟩),l.eZ,?_,?_,?_,?_,l.own⟩
 ·intro i ty cs e;by_cases j:i=G.top
  ·simp[AS.set,j]at e
  ·simp[AS.set,j]at e;exact l.cells i ty cs e
 ·intro i es e;by_cases j:i=G.top
  ·subst j;simp[AS.set]at e;subst e;exact⟨w.heap.size,#[],0,by simp[Gh.bind],heap_alloc_new w _,⟨rfl,by constructor<;>simp⟩,fun k o=>by simp at o⟩
  ·simp[AS.set,j]at e;exact l.maps i es e
 ·intro i s p e;by_cases j:i=G.top
  ·simp[AS.set,j]at e;subst e;cases p
  ·simp[AS.set,j]at e;exact l.dQ i s p e
 ·intro i n e;by_cases j:i=G.top
  ·simp[AS.set,j]at e
  ·simp[AS.set,j]at e;exact l.tok i n e
theorem B4 {s:Fr}{ρ:Operand→Value}(j:∀x,aU P G (ev s x) (ρ x)) (o:Option Operand):(o.map (ev s)=none∧o.map ρ=none)∨ ∃a b,o.map (ev s)=some a∧o.map ρ=some b∧aU P G a b:=by
 cases o with
 |none=>exact .inl ⟨rfl,rfl⟩
 |some x=>exact .inr ⟨_,_,rfl,rfl,j x⟩
theorem D9 (q:Inv P G σ w) {s:Fr}{ρ:Operand→Value}(j:∀x,aU P G (ev s x) (ρ x)) (o:Oper) (h:iT P s σ K Pn o.op):Out P G K Pn ((execOp ρ o).run P w):=by
 obtain⟨dst,op,ty,pos,after,guard⟩:=o;cases op<;>simp only[iT]at h
 case move x=>exact⟨G,σ,_,.refl G,q,j x,h⟩
 case assign x=>exact⟨G,σ,_,.refl G,q,j x,h⟩
 case pick c a b=>
  split at h
  ·rename_i t J;have D:=j c;rw[J]at D;generalize F:ρ c=v at D;cases D;have A:(execOp ρ ⟨dst,.pick c a b,ty,pos,after,guard⟩).run P w= .ok (.value (if t then ρ a else ρ b)) w:=by simp[execOp,F,asBool]
   rw[A];refine⟨G,σ,_,.refl G,q,?_,h⟩;cases t
   ·exact j b
   ·exact j a
  ·exact h.elim
 case alloc e=>exact CX q h
 case box e x=>exact IZ q (j x) h
 case build t parts=>exact CW q j h
 case buildSlice t n parts=>exact tr q j h
 case load t a=>exact FX q (j a) h
 case store t a x=>exact CK q (j a) (j x) h
 case nilCheck x=>exact wG (o:=⟨dst,.nilCheck x,ty,pos,after,guard⟩) q rfl (j x) h
 case binOp op t x y L=>exact I0 q (j x) (j y) h
 case unOp op t x=>exact Lb q (j x) h
 case convert src dst x=>exact ns q (j x) h
 case makeInterface t x=>exact Out.pure q (run_makeInterface w t (ρ x) h.1) (.lq (j x)) h.2
 case makeFunc f first cap=>
  refine Out.pure q (v:= .func f (first.map ρ) (cap.map ρ)) rfl ?_ h;have:=aU.fn (P:=P) (G:=G) (f:=f) (first:=first.toList.map (ev s)) (captured:=cap.toList.map (ev s)) (first.toList.map ρ) (cap.toList.map ρ) (by simp) (by simp)
   (fun i u=>by simp at u;simp[List.getD_eq_getElem?_getD,u];exact j _) (fun i u=>by simp at u;simp[List.getD_eq_getElem?_getD,u];exact j _)
  have e:∀a:Array Operand,(a.toList.map ρ).toArray=a.map ρ:=fun a=>by apply Array.ext';simp
  rw[e,e]at this;exact this
 case makeMap t r=>
  cases r with
  |none=>obtain⟨G',g1,g2,g3⟩:=q.allocMap;refine Out.value (v:= .map (some w.heap.size)) ?_ g1 g3 (.mp g2) (h.2 _ q.fresh);simp[Instr.makeMap]
  |some x=>simp at h
 case range t x=>exact CN q (j x) h
 case next it str=>exact FV q (j it) h
 case entry it=>exact CS q (j it) h
 case makeSlice t l c=>exact vQ q (j l) (j c) h
 case slice t x lo u mx=>exact CM q (j x) (B4 j lo) (B4 j u) (B4 j mx) h
 case fieldAddr t x f=>exact vS q (j x) h
 case field t x f=>exact CQ q (j x) h
 case indexAddr t x i=>exact vR q (j x) (j i) h
 case index t x i=>exact CP q (j x) (j i) h
 case extract x i=>exact y8 q (j x) h
 case panic x=>
  split at h
  ·rename_i t v I;have D:=j x;rw[I]at D;have E:=D;generalize F:ρ x=M at D E;cases D with
   |lq h1=>
    rename_i y;have A:(execOp ρ ⟨dst,.panic x,ty,pos,after,guard⟩).run P w= .halt (.panic (.iface t y)) w:=by show(do pure (Next.value (←Instr.panic (ρ x))):Sem Next).run P w= _;rw[F];rfl
    rw[A];exact⟨G,σ,_,.refl G,q,E,h⟩
  ·exact h.elim
 case call c=>
  obtain⟨callee,args,H⟩:=c;cases callee with
  |builtin b=>show Out P G K Pn ((do let d ←resolve ρ ⟨.builtin b,args,H⟩ ty;invoke d.target d.args:Sem Next).run P w);simp only[resolve,Sem.run_bind,Sem.run_pure,Result.andThen_ok,invoke];exact y9 q j h
  |value f=>exact h.elim
  |invoke r m=>exact h.elim
 all_goals exact h.elim
end Go.AW
namespace Go.AW
variable {P:Program} {G:Gh} {σ:AS} {w:World}
inductive Qh where
 |normal|exit (id:Nat)|ret|panic (v:AV)
abbrev AQ:=Qh→Fr→AS→Prop
def LQ (P:Program) (n:Nat) (ds:List Deferred) (Q:AQ) (G0:Gh):Exit→Act→World→Prop
 |.normal,a,w=> ∃G s σ,G0.Le G∧kO P G n ds s σ a w∧Q .normal s σ
 |.exit id,a,w=> ∃G s σ,G0.Le G∧kO P G n ds s σ a w∧Q (.exit id) s σ
 |.ret,a,w=> ∃G s σ,G0.Le G∧kO P G n ds s σ a w∧Q .ret s σ
 |.panic [e],a,w=>e.recovered=false∧e.goexit=false∧ ∃G s σ v,G0.Le G∧kO P G n ds s σ a w∧aU P G v e.v∧Q (.panic v) s σ
 | _,_,_ =>False
def aA (P:Program) (n:Nat) (ds:List Deferred) (c:Code) (Q:AQ) (s:Fr) (σ:AS):Prop:=
 ∀(G0 G:Gh) (a:Act) (w:World),G0.Le G→kO P G n ds s σ a w→c.wp P (LQ P n ds Q G0) a w
def aj (P:Program) (o:AV) (args:List AV) (σ:AS) (K l:AV→AS→Prop):Prop:=
 match o with
 |.sc (.func (.func f) a b)=>a.size=0∧b.size=0∧ ∃R j,ad P f args σ R j∧(∀r σ',R r σ'→K r σ')∧(∀r σ',j r σ'→l r σ')
 |.fn (.func f) first cap=> ∃R j,ad P f (first++args++cap) σ R j∧(∀r σ',R r σ'→K r σ')∧(∀r σ',j r σ'→l r σ')
 | _ =>False
theorem Bf {l:AV}{args:List AV}{K o:AV→AS→Prop}(h:aj P l args σ K o):
 (∃f,l= .sc (.func (.func f) #[] #[])∧ ∃R j,ad P f args σ R j∧(∀r σ',R r σ'→K r σ')∧(∀r σ',j r σ'→o r σ'))∨
 (∃f first cap,l= .fn (.func f) first cap∧ ∃R j,ad P f (first++args++cap) σ R j∧(∀r σ',R r σ'→K r σ')∧(∀r σ',j r σ'→o r σ')):=by
 unfold aj at h;split at h
 ·rename_i f a b;obtain⟨h1,v,u⟩:=h;have ha:a= #[]:=Array.size_eq_zero_iff.1 h1;have q:b= #[]:=Array.size_eq_zero_iff.1 v;subst ha q;exact .inl ⟨f,rfl,u⟩
 ·exact .inr ⟨_,_,_,rfl,h⟩
 ·exact h.elim
def bX (P:Program) (op:Op) (s:Fr) (σ:AS) (j l:AV→AS→Prop):Prop:=
 match op with
 |.call ⟨.value f,args,_⟩=>aj P (ev s f) (args.toList.map (ev s)) σ j l
 |op=>iT P s σ j l op
def jG (P:Program) (n:Nat) (o:Oper) (s:Fr) (σ:AS) (K:Fr→AS→Prop) (Q:AQ):Prop:=
 (match o.dst with|none=>True|some d=>d<n)∧bX P o.op s σ (fun v σ'=>K (s.put o.dst v) σ') (fun v σ'=>Q (.panic v) s σ')
def fy (ops:Array Oper) (s:Fr) (j:Nat):AV:=match (ops[j]?).bind (·.dst)with|some d=>s d|none=> .any
abbrev iH:AV:= .sc undef
def yH:AV→Bool→Bool
 |.sc (.bool b),w=>b==w
 | _,_ =>false
def Oe:AV→Bool→Bool
 |.sc (.bool b),w=>b !=w
 |.sc (.tuple _),_ =>true
 | _,_ =>false
def iL (g:AV) (want:Bool) (A B:Prop):Prop:=(yH g want=true∧A)∨(Oe g want=true∧B)
theorem og {g:AV}{want:Bool}{A B j B':Prop}(h:iL g want A B) (h1:A→j) (l:B→B'):iL g want j B':=
 h.imp (fun h=>⟨h.1,h1 h.2⟩) (fun h=>⟨h.1,l h.2⟩)
def eP (P:Program) (n:Nat) (ops:Array Oper) (o:Oper) (s:Fr) (σ:AS) (K:Fr→AS→Prop) (Q:AQ):Prop:=
 match o.guard with
 |none=>jG P n o s σ K Q
 |some (j,want)=>iL (fy ops s j) want (jG P n o s σ K Q) ((match o.dst with|none=>True|some d=>d<n)∧K (s.put o.dst iH) σ)
def jq (P:Program) (n:Nat) (ops:Array Oper) (Q:AQ):List Oper→Fr→AS→Prop
 |[],s,σ=>Q .normal s σ
 |o::rest,s,σ=>eP P n ops o s σ (jq P n ops Q rest) Q
theorem El {o:Oper}{a:Act}{next next':Act→World→Prop}{Q:Exit→Act→World→Prop}{r:Result Next}(h:∀a w,next a w→next' a w) (j:o.upon P a next Q r):o.upon P a next' Q r:=by
 cases r with
 |ok n w'=>
  cases n<;>simp only[Oper.upon]at j⊢ <;>
   first
    |exact h _ _ j
    |exact Calls.mono j (fun e l he=>by cases e<;>first|exact h _ _ he|exact he)
    |exact Rows.mono j (fun _ _ he=>h _ _ he)
 |halt x w'=>cases x<;>simp only[Oper.upon]at j⊢ <;>exact j
theorem rB {n:Nat}{ds:List Deferred}{G0:Gh}(o:Oper) {s:Fr}{K:Fr→AS→Prop}{Q:AQ}(h:jG P n o s σ K Q) (hle:G0.Le G) {a:Act}(u:kO P G n ds s σ a w)
 {next:Act→World→Prop} (hn:∀G' s' σ' a' w',G0.Le G'→kO P G' n ds s' σ' a' w'→K s' σ'→next a' w'):o.wp P a w next (LQ P n ds Q G0):=by
 obtain⟨hd,h⟩:=h;have H:∀t,o.dst=some t→t<n:=by intro t ht;rw[ht]at hd;exact hd
 have A:=u.ev;have plain:iT P s σ (fun v σ'=>K (s.put o.dst v) σ') (fun v σ'=>Q (.panic v) s σ') o.op→o.wp P a w next (LQ P n ds Q G0):=by
  intro h;have:=D9 u.inv A o h;unfold Oper.wp;generalize (execOp a.eval o).run P w=r at this⊢;cases r with
  |ok nx w'=>
   cases nx<;>simp only[Out]at this<;>first|exact this.elim|skip
   ·obtain⟨G',σ',av,g1,g2,g3,E⟩:=this;exact hn G' _ _ _ _ (hle.trans g1) (u.put g1 g2 o.dst H g3) E
   ·obtain⟨G',σ',av,g1,g2,g3,E⟩:=this;exact hn G' _ _ _ _ (hle.trans g1) (u.put g1 g2 o.dst H g3) E
  |halt x w'=>
   cases x<;>simp only[Out]at this<;>first|exact this.elim|skip
   obtain⟨G',σ',av,g1,g2,g3,E⟩:=this;exact⟨rfl,rfl,G',s,σ',av,hle.trans g1,⟨g2,u.size,u.ds,fun i=>(u.rep i).mono g1⟩,g3,E⟩
 obtain⟨dst,op,ty,pos,after,guard⟩:=o;have q:∀(f:Operand) (args:Array Operand) (j:Array TypeId),op= .call ⟨.value f,args,j⟩→
  aj P (ev s f) (args.toList.map (ev s)) σ (fun v σ'=>K (s.put dst v) σ') (fun v σ'=>Q (.panic v) s σ')→Oper.wp P ⟨dst,op,ty,pos,after,guard⟩ a w next (LQ P n ds Q G0):=by
  intro f args j V h;subst V;have hf:=A f;have fin:∀(l:FuncId) (as:List AV) (vals:Array Value) (R J:AV→AS→Prop),ad P l as σ R J→wJ P G as vals→(∀r σ',R r σ'→K (s.put dst r) σ')→(∀r σ',J r σ'→Q (.panic r) s σ')→
   (execOp a.eval ⟨dst,.call ⟨.value f,args,j⟩,ty,pos,after,guard⟩).run P w= .ok (.enter l vals) w→Oper.wp P ⟨dst,.call ⟨.value f,args,j⟩,ty,pos,after,guard⟩ a w next (LQ P n ds Q G0):=by
   intro l as vals R J I hr h1 S O;unfold Oper.wp;rw[O,Oper.upon_enter];refine(I.run G w vals u.inv hr).mono fun e w' he=> ?_;unfold jC at he;split at he
   ·obtain⟨G',σ',r,g1,g2,g3,E⟩:=he;exact hn G' _ _ _ _ (hle.trans g1) (u.put g1 g2 dst H g3) (h1 _ _ E)
   ·obtain⟨x,y,G',σ',r,g1,g2,g3,E⟩:=he;exact⟨x,y,G',s,σ',r,hle.trans g1,⟨g2,u.size,u.ds,fun i=>(u.rep i).mono g1⟩,g3,S _ _ E⟩
   ·exact he.elim
  have D:wJ P G (args.toList.map (ev s)) (args.map a.eval):=⟨by simp,fun i T=>by simp at T;simp[List.getD_eq_getElem?_getD,T];exact A _⟩;rcases Bf h with⟨l,F,R,J,I,h1,S⟩|⟨l,first,cap,F,R,J,I,h1,S⟩
  ·rw[F]at hf;generalize U:a.eval f=v at hf;cases hf;refine fin l _ _ R J I D h1 S ?_;show(do let d ←resolve a.eval ⟨.value f,args,j⟩ ty;invoke d.target d.args:Sem Next).run P w= _;simp only[resolve,U,Deferred.ofValue,Sem.run_bind,Sem.run_pure,Result.andThen_ok,invoke];have:=oB (w:=w) I.body (args.map a.eval);simpa using this
  ·rw[F]at hf;generalize U:a.eval f=v at hf;cases hf with
   |fn L M lf lc X Y=>
    refine fin l _ (L.toArray++args.map a.eval++M.toArray) R J I ?_ h1 S ?_
    ·refine⟨by simp[lf,lc],fun i T=> ?_⟩;simp only[List.length_append,List.length_map,Array.length_toList]at T;have e1:(L.toArray++args.map a.eval++M.toArray).getD i undef=(L++(args.toList.map a.eval)++M).getD i undef:=by
      have:L.toArray++args.map a.eval++M.toArray=(L++(args.toList.map a.eval)++M).toArray:=by apply Array.ext';simp
      rw[this];simp[List.getD_eq_getElem?_getD]
     rw[e1];by_cases h3:i<first.length
     ·rw[aQ _ _ _ (by simp;omega),aQ _ _ _ h3,aQ _ _ _ (by simp;omega),aQ _ _ _ (by omega)];exact X i h3
     ·by_cases h4:i<first.length+args.size
      ·rw[aQ _ _ _ (by simp;omega),bk _ _ _ (by omega),aQ _ _ _ (by simp;omega),bk _ _ _ (by omega),lf];have:=D.2 (i-first.length) (by simp;omega);have e2:(args.map a.eval).getD (i-first.length) undef=(args.toList.map a.eval).getD (i-first.length) undef:=by
        have:args.map a.eval=(args.toList.map a.eval).toArray:=by apply Array.ext';simp
        rw[this];simp[List.getD_eq_getElem?_getD]
       rw[e2]at this;exact this
      ·rw[bk _ _ _ (by simp;omega),bk _ _ _ (by simp;omega)];have e3:i-(first++List.map (ev s) args.toList).length=i-first.length-args.size:=by have Z:args.toList.length=args.size:=Array.length_toList;rw[List.length_append,List.length_map,Z];omega
       have e4:i-(L++List.map a.eval args.toList).length=i-first.length-args.size:=by have Z:args.toList.length=args.size:=Array.length_toList;rw[List.length_append,List.length_map,Z];omega
       rw[e3,e4];exact Y _ (by omega)
    ·show(do let d ←resolve a.eval ⟨.value f,args,j⟩ ty;invoke d.target d.args:Sem Next).run P w= _;simp only[resolve,U,Deferred.ofValue,Sem.run_bind,Sem.run_pure,Result.andThen_ok,invoke];exact oB (w:=w) I.body _
 simp only at h plain;unfold bX at h;cases op
 case call c=>
  obtain⟨callee,args,j⟩:=c;cases callee
  case value f=>exact q f args j rfl h
  all_goals exact plain h
 all_goals exact plain h
theorem m8 {n:Nat}{ds:List Deferred}{G0:Gh}{ops:Array Oper}(o:Oper) {s:Fr}{K:Fr→AS→Prop}{Q:AQ}(h:eP P n ops o s σ K Q) (hle:G0.Le G) {a:Act}(E:kO P G n ds s σ a w)
 {next:Act→World→Prop} (hn:∀G' J σ' M w',G0.Le G'→kO P G' n ds J σ' M w'→K J σ'→next M w'):
 if Region.wanted o (yielded ops a.tmps)then o.wp P a w next (LQ P n ds Q G0)else next (a.put o.dst undef) w:=by
 unfold eP at h;split at h
 ·rename_i F;rw[if_pos (by simp[Region.wanted,F])];exact rB o h hle E hn
 ·rename_i j want F;have read:∀v,fy ops s j= .sc v→yielded ops a.tmps j=(match v with|.bool b=>some b| _ =>none):=by
   intro v q;unfold fy at q;split at q
   ·rename_i d O;have H:=E.rep d;rw[q]at H;generalize A:a.tmps.getD d undef=u at H;cases H;simp only[yielded,O,Option.bind_some];rw[Array.getD_eq_getD_getElem?]at A;cases L:a.tmps[d]? with
    |none=>rw[L]at A;simp only[Option.getD_none]at A;subst A;rfl
    |some y=>rw[L]at A;simp only[Option.getD_some]at A;subst A;cases y<;>rfl
   ·cases q
  rcases h with⟨l,h⟩|⟨l,h⟩
  ·unfold yH at l;split at l
   ·rename_i b _ q;have D:=read _ q;rw[if_pos (by simp only[Region.wanted,F,D];simpa using l)];exact rB o h hle E hn
   ·cases l
  ·have I:∀t,o.dst=some t→t<n:=by intro t ht;have:=h.1;rw[ht]at this;exact this
   have fin:¬(Region.wanted o (yielded ops a.tmps)=true):=by
    unfold Oe at l;split at l
    ·rename_i b _ q;have D:=read _ q;simp only[Region.wanted,F,D];simpa using l
    ·rename_i vs _ q;have D:=read _ q;simp only[Region.wanted,F,D];simp
    ·cases l
   rw[if_neg fin];exact hn G _ _ _ _ hle (E.put (.refl G) E.inv o.dst I (.sc _)) h.2
theorem FN {n:Nat}{ds:List Deferred}{G0:Gh}{ops:Array Oper}{Q:AQ} :∀(l:List Oper) (G:Gh) (s:Fr) (σ:AS) (a:Act) (w:World),jq P n ops Q l s σ→G0.Le G→kO P G n ds s σ a w→
 wpList P ops (LQ P n ds Q G0) l a w:=by
 intro l;induction l with
 |nil=>intro G s σ a w h hle j;exact⟨G,s,σ,hle,j,h⟩
 |cons o rest u=>
  intro G s σ a w h hle j;have:=m8 o h hle j (next:=wpList P ops (LQ P n ds Q G0) rest) (fun G' q σ' A w' h1 y v=>u G' q σ' A w' v h1 y);unfold wpList;by_cases hw:Region.wanted o (yielded ops a.tmps)=true
  ·rw[if_pos hw]at this⊢;exact .inl this
  ·rw[if_neg hw]at this⊢;exact this
section rules
variable {n:Nat} {ds:List Deferred} {Q:AQ} {s:Fr}
def fD (K:Fr→AS→Prop) (Q:AQ):AQ
 |.normal,s,σ=>K s σ
 |e,s,σ=>Q e s σ
def kC (id:Nat) (Q:AQ):AQ
 |.exit j,s,σ=>if j=id then Q .normal s σ else Q (.exit j) s σ
 |e,s,σ=>Q e s σ
theorem LQ.mono {Q u:AQ}{G0:Gh}(h:∀e s σ,Q e s σ→u e s σ) {e:Exit}{a:Act}{w:World}(j:LQ P n ds Q G0 e a w):LQ P n ds u G0 e a w:=by
 unfold LQ at j⊢;split at j
 ·obtain⟨G,s,σ,q,o,l⟩:=j;exact⟨G,s,σ,q,o,h _ _ _ l⟩
 ·obtain⟨G,s,σ,q,o,l⟩:=j;exact⟨G,s,σ,q,o,h _ _ _ l⟩
 ·obtain⟨G,s,σ,q,o,l⟩:=j;exact⟨G,s,σ,q,o,h _ _ _ l⟩
 ·obtain⟨x,y,G,s,σ,v,q,o,l,A⟩:=j;exact⟨x,y,G,s,σ,v,q,o,l,h _ _ _ A⟩
 ·exact j.elim
theorem aA.mono {c:Code}{j:AQ}(l:aA P n ds c Q s σ) (h:∀e s σ,Q e s σ→j e s σ):aA P n ds c j s σ:=
 fun G0 G a w h1 o=>wp_mono (l G0 G a w h1 o) fun _ _ _ =>LQ.mono h
theorem aA.seq {x y:Code}(h:aA P n ds x (fD (aA P n ds y Q) Q) s σ):aA P n ds (.seq x y) Q s σ:=by
 intro G0 G a w h1 A;refine wp_seq (wp_mono (h G0 G a w h1 A) fun e E w' j=> ?_);unfold LQ at j;split at j
 ·obtain⟨G',u,σ',q,o,l⟩:=j;exact l G0 G' _ _ q o
 ·obtain⟨G',u,σ',q,o,l⟩:=j;exact⟨G',u,σ',q,o,l⟩
 ·obtain⟨G',u,σ',q,o,l⟩:=j;exact⟨G',u,σ',q,o,l⟩
 ·obtain⟨x,y,G',u,σ',v,q,o,l,D⟩:=j;exact⟨x,y,G',u,σ',v,q,o,l,D⟩
 ·exact j.elim
theorem aA.skip (h:Q .normal s σ):aA P n ds .skip Q s σ:=fun G0 G a w h1 j=>wp_skip ⟨G,s,σ,h1,j,h⟩
theorem aA.exit {id:Nat}(h:Q (.exit id) s σ):aA P n ds (.exit id) Q s σ:=fun G0 G a w h1 j=>wp_exit ⟨G,s,σ,h1,j,h⟩
theorem aA.ret (h:Q .ret s σ):aA P n ds .ret Q s σ:=fun G0 G a w h1 j=>wp_ret ⟨G,s,σ,h1,j,h⟩
theorem aA.label {l:Nat}(h:Q .normal s σ):aA P n ds (.label l) Q s σ:=fun G0 G a w h1 j=>wp_label ⟨G,s,σ,h1,j,h⟩
theorem aA.cond {c:Operand}{x y:Code}{t:Bool}(o:ev s c= .sc (.bool t)) (ht:t=true→aA P n ds x Q s σ) (hf:t=false→aA P n ds y Q s σ):aA P n ds (.cond c x y) Q s σ:=by
 intro G0 G a w h1 l;have j:=l.ev c;rw[o]at j;have he:a.eval c= .bool t:=by generalize a.eval c=v at j;cases j;rfl
 exact wp_cond_split he (fun e=>ht e G0 G a w h1 l) (fun e=>hf e G0 G a w h1 l)
theorem aA.block {id:Nat}{c:Code}(h:aA P n ds c (kC id Q) s σ):aA P n ds (.block id c) Q s σ:=by
 intro G0 G a w h1 E;refine wp_block (wp_mono (h G0 G a w h1 E) fun e H w' u=> ?_);unfold LQ at u;split at u
 ·obtain⟨G',l,σ',q,o,j⟩:=u;exact⟨G',l,σ',q,o,j⟩
 ·rename_i D;obtain⟨G',l,σ',q,o,j⟩:=u;simp only[Exit.inBlock,kC]at j⊢;split
  ·rename_i A;rw[if_pos A]at j;exact⟨G',l,σ',q,o,j⟩
  ·rename_i A;rw[if_neg A]at j;exact⟨G',l,σ',q,o,j⟩
 ·obtain⟨G',l,σ',q,o,j⟩:=u;exact⟨G',l,σ',q,o,j⟩
 ·obtain⟨x,y,G',l,σ',v,q,o,j,F⟩:=u;exact⟨x,y,G',l,σ',v,q,o,j,F⟩
 ·exact u.elim
theorem aA.region {id:Nat}{l:List Oper}(h:jq P n l.toArray Q l s σ):aA P n ds (.region id l.toArray false) Q s σ:=
 fun G0 G a w h1 j=>wp_region_lit (FN l G s σ a w h h1 j)
def AV.Wk (P:Program) (v j:AV):Prop:= ∀G x,aU P G v x→aU P G j x
def aP (P:Program) (s j:Fr):Prop:= ∀i,AV.Wk P (s i) (j i)
theorem kO.weaken {j:Fr}{σ':AS}{a:Act}(h:kO P G n ds s σ a w) (h1:aP P s j) (l:AS.le σ' σ):kO P G n ds j σ' a w:=
 ⟨h.inv.weaken l,h.size,h.ds,fun i=>h1 i _ _ (h.rep i)⟩
theorem aA.weaken {c:Code}{j:Fr}{σ':AS}(h:aA P n ds c Q j σ') (h1:aP P s j) (l:AS.le σ' σ):aA P n ds c Q s σ:=
 fun G0 G a w g1 g2=>h G0 G a w g1 (g2.weaken h1 l)
theorem aA.loop {c:Code}(I:Nat→Fr→AS→Prop) {k0:Nat}{M:Fr}{σ0:AS}(h0:I k0 M σ0) (hs:aP P s M) (O:AS.le σ0 σ)
 (hr:∀k s σ,I k s σ→aA P n ds c (fD (fun l σ'=> ∃k' s1 o,k'<k∧aP P l s1∧AS.le o σ'∧I k' s1 o) Q) s σ):aA P n ds (.loop c) Q s σ:=by
 intro G0 G a w h1 h2
 let J:Nat→Act→World→Prop:=fun k a w=> ∃G s σ,G0.Le G∧kO P G n ds s σ a w∧I k s σ
 have ah:∀(a:Act) (w:World),(∃k,J k a w)→ ∃k,J k a w∧ ∀j,J j a w→k≤j:=by
  intro a w h;obtain⟨k,hk⟩:=h;induction k using Nat.strongRecOn with
  | _ k Z=>
   by_cases hex:∃j,j<k∧J j a w
   ·obtain⟨j,T,U⟩:=hex;exact Z j T U
   ·exact⟨k,hk,fun j T=>Nat.le_of_not_lt fun S=>hex ⟨j,S,T⟩⟩
 let H:Act→World→Nat:=fun a w=> @dite _ (∃k,J k a w) (Classical.propDecidable _) (fun h=>Classical.choose (ah a w h)) (fun _ =>0)
 have F:∀a w (h:∃k,J k a w),J (H a w) a w∧ ∀j,J j a w→H a w≤j:=by intro a w h;have e:H a w=Classical.choose (ah a w h):=dif_pos h;rw[e];exact Classical.choose_spec (ah a w h)
 refine wp_loop (fun a w=> ∃k,J k a w) H ⟨k0,G,M,σ0,h1,h2.weaken hs O,h0⟩ fun a w U=> ?_;obtain⟨⟨G1,s1,o,g1,g2,g3⟩,X⟩:=F a w U;refine wp_mono (hr _ _ _ g3 G0 G1 a w g1 g2) fun e Y w' q=> ?_;unfold LQ at q;split at q
 ·obtain⟨G',l,σ',E,D,k',s2,L,A,V,a5,a6⟩:=q;have u:J k' Y w':=⟨G',s2,L,E,D.weaken V a5,a6⟩;exact⟨⟨k',u⟩,Nat.lt_of_le_of_lt ((F Y w' ⟨k',u⟩).2 k' u) A⟩
 ·obtain⟨G',l,σ',E,D,A⟩:=q;exact⟨G',l,σ',E,D,A⟩
 ·obtain⟨G',l,σ',E,D,A⟩:=q;exact⟨G',l,σ',E,D,A⟩
 ·obtain⟨x,y,G',l,σ',v,E,D,A,V⟩:=q;exact⟨x,y,G',l,σ',v,E,D,A,V⟩
 ·exact q.elim
end rules
def p8 (args:List AV):Fr:=fun i=>args.getD i .any
def er (rs:List ResultVar) (P:Program) (s:Fr) (σ:AS) (K:List AV→Prop):Prop:=
 match rs with
 |[]=>K []
 |.tmp t::r=>er r P s σ fun vs=>K (s t::vs)
 |.cell a t::r=>ew P σ t (s a) fun v=>er r P s σ fun vs=>K (v::vs)
def dF:List AV→AV
 |[v]=>v
 |vs=> .cp vs
def sT (P:Program) (rs:List ResultVar) (R l:AV→AS→Prop):AQ
 |.normal,s,σ=>er rs P s σ fun vs=> ∃j σ',AV.Wk P (dF vs) j∧AS.le σ' σ∧R j σ'
 |.ret,s,σ=>er rs P s σ fun vs=> ∃j σ',AV.Wk P (dF vs) j∧AS.le σ' σ∧R j σ'
 |.panic v,s,σ=> ∃σ',AS.le σ' σ∧l v σ'
 | _,_,_ =>False
theorem FW {t:TypeId}{x:AV}{v:Value}{K:AV→Prop}(o:Inv P G σ w) (l:aU P G x v) (h:ew P σ t x K):
 ∃y j,(do let a ←asAddr v;loadVar t a:Sem Value).run P w= .ok y w∧aU P G j y∧K j:=by
 obtain⟨a,y,j,rfl,h1,u,q⟩:=xH o l h;exact⟨y,j,by simpa[asAddr]using h1,u,q⟩
def uI (tmps:Array Value):ResultVar→Sem Value
 |.tmp t=>pure (tmps.getD t undef)
 |.cell p t=>do loadVar t (←asAddr (tmps.getD p undef))
theorem BY (fn:Func) (tmps:Array Value):results fn tmps=(do
 let vs ←fn.results.mapM (uI tmps)
 pure (if h:vs.size=1 then vs[0]else Value.tuple vs)):=by
 unfold results;congr 1
theorem BX {n:Nat}{ds:List Deferred}{s:Fr}{a:Act}(l:kO P G n ds s σ a w):∀(rs:List ResultVar) (K:List AV→Prop),er rs P s σ K→
 ∃j vs,(rs.mapM (uI a.tmps)).run P w= .ok j w∧j.length=vs.length∧(∀i,i<vs.length→aU P G (vs.getD i .any) (j.getD i undef))∧K vs:=by
 intro rs;induction rs with
 |nil=>intro K h;exact⟨[],[],by simp,rfl,by simp,h⟩
 |cons r rs A=>
  intro K h;cases r with
  |tmp t=>
   obtain⟨j,vs,h1,v,u,q⟩:=A _ h;refine⟨a.tmps.getD t undef::j,s t::vs,?_,by simp[v],fun i o=> ?_,q⟩
   ·simp only[List.mapM_cons,Sem.run_bind,uI,Sem.run_pure,Result.andThen_ok,h1]
   ·cases i with
    |zero=>simpa using l.rep t
    |succ i=>simpa using u i (by simpa using o)
  |cell p t=>
   obtain⟨y,F,k1,E,D⟩:=FW l.inv (l.rep p) h;obtain⟨j,vs,h1,v,u,q⟩:=A _ D;refine⟨y::j,F::vs,?_,by simp[v],fun i o=> ?_,q⟩
   ·simp only[List.mapM_cons,Sem.run_bind,uI]at k1⊢;rw[k1];simp only[Sem.run_pure,Result.andThen_ok,h1]
   ·cases i with
    |zero=>simpa using E
    |succ i=>simpa using u i (by simpa using o)
theorem mQ {n:Nat}{ds:List Deferred}{s:Fr}{a:Act}(y:kO P G n ds s σ a w) (fn:Func) (K:List AV→Prop) (h:er fn.results.toList P s σ K):
 ∃v vs,(results fn a.tmps).run P w= .ok v w∧aU P G (dF vs) v∧K vs:=by
 obtain⟨j,vs,h1,o,u,A⟩:=BX y fn.results.toList K h;refine⟨if h:j.toArray.size=1 then j.toArray[0]else .tuple j.toArray,vs,?_,?_,A⟩
 ·have q:(fn.results.mapM (uI a.tmps)).run P w= .ok j.toArray w:=by rw[Array.mapM_eq_mapM_toList];simp only[Sem.run_map,h1];rfl
  rw[BY,Sem.run_bind,q];rfl
 ·unfold dF;split
  ·rename_i v;have hl:j.length=1:=by simpa using o
   have:=u 0 (by simp);rw[dif_pos (by simpa using hl)];have e:j.toArray[0]'(by simp[hl])=j.getD 0 undef:=by simp[List.getD_eq_getElem?_getD,hl]
   rw[e];simpa using this
  ·rename_i l;have hl:j.length≠1:=by
    intro e;rw[o]at e
    match vs,e with
    |[v],_ =>exact l v rfl
   rw[dif_neg (by simpa using hl)];exact .cp j o u
theorem ad.qD {f:FuncId}{fn:Func}{c:Code}{args:List AV}{R L:AV→AS→Prop}(hf:P.funcs[f]? =some fn) (M:fn.body=some c) (hn:(fn.name== "runtime.NumGoroutine")=false)
 (ha:args.length≤fn.ntmps) (h:aA P fn.ntmps [] c (sT P fn.results.toList R L) (p8 args) σ):ad P f args σ R L:=by
 refine⟨by simp[im,hf,M,hn],fun G w vals U H=>calls_of_wp hf M ?_⟩;have E:kO P G fn.ntmps [] (p8 args) σ { tmps:=vals++Array.replicate (fn.ntmps-vals.size) undef,defers:= [] } w:=by
  refine⟨U,by simp[H.1];omega,rfl,fun i=> ?_⟩;by_cases q:i<args.length
  ·have X:(vals++Array.replicate (fn.ntmps-vals.size) undef).getD i undef=vals.getD i undef:=by rw[Array.getD_eq_getD_getElem?,Array.getElem?_append_left (by rw[H.1];exact q),←Array.getD_eq_getD_getElem?]
   simp only[X];exact H.2 i q
  ·have:p8 args i= .any:=by simp[p8,List.getD_eq_getElem?_getD,List.getElem?_eq_none (Nat.le_of_not_lt q)]
   rw[this];exact .any _
 refine wp_mono (h G G _ w (.refl G) E) fun e J w' o=> ?_;have fin:∀(l:Fr) (σ':AS) (G':Gh),G.Le G'→kO P G' fn.ntmps [] l σ' J w'→(er fn.results.toList P l σ' fun vs=> ∃F j,AV.Wk P (dF vs) F∧AS.le j σ'∧R F j)→
  J.defers= []∧ ∃v,(results fn J.tmps).run P w'= .ok v w'∧jC P G R L (.returned v) w':=by
  intro l σ' G' h1 I V;obtain⟨v,vs,k1,T,F,j,S,k4,O⟩:=mQ I fn _ V;exact⟨I.ds,v,k1,G',j,F,h1,I.inv.weaken k4,S _ _ T,O⟩
 unfold LQ at o;split at o
 ·obtain⟨G',l,σ',D,A,u⟩:=o;exact fin l σ' G' D A u
 ·obtain⟨G',l,σ',D,A,u⟩:=o;exact u.elim
 ·obtain⟨G',l,σ',D,A,u⟩:=o;exact fin l σ' G' D A u
 ·obtain⟨x,y,G',l,σ',v,D,A,u,j,Z,Y⟩:=o;exact⟨A.ds,x,y,G',j,v,D,A.inv.weaken Z,u,Y⟩
 ·exact o.elim
end Go.AW
namespace Go.AW
variable {P:Program} {G:Gh} {σ:AS} {w:World}
def Co (P:Program) (ops:Array Oper) (n:Nat) (o:Oper) (s:Fr) (σ:AS) (l q:AV→AS→Prop):Prop:=
 (match o.dst with|none=>True|some d=>d<n)∧
 match o.guard with
 |none=>bX P o.op s σ l q
 |some (j,want)=>iL (fy ops s j) want (bX P o.op s σ l q) (l iH σ)
theorem kD (n:Nat) (ops:Array Oper) (o:Oper) (s:Fr) (K:Fr→AS→Prop) (Q:AQ):
 eP P n ops o s σ K Q↔Co P ops n o s σ (fun v σ'=>K (s.put o.dst v) σ') (fun v σ'=>Q (.panic v) s σ'):=by
 unfold eP Co;cases q:o.guard with
 |none=>exact Iff.rfl
 |some p=>
  obtain⟨j,want⟩:=p;simp only;constructor
  ·rintro(⟨l,h⟩|⟨l,h⟩)
   ·exact⟨h.1,.inl ⟨l,h.2⟩⟩
   ·exact⟨h.1,.inr ⟨l,h.2⟩⟩
  ·intro h;exact og h.2 (fun x=>⟨h.1,x⟩) (fun x=>⟨h.1,x⟩)
theorem xF {s j:Fr}{K Pn:AV→AS→Prop}(op:Op) (h:∀x∈op.operands,ev s x=ev j x):iT P s σ K Pn op=iT P j σ K Pn op:=by
 have mp:∀(parts:Array (Nat×Operand)),(∀x∈((parts.toList.map (·.2)).toArray:Array Operand),ev s x=ev j x)→
  (parts.toList.map fun p=>(p.1,ev s p.2))=(parts.toList.map fun p=>(p.1,ev j p.2)):=by
  intro parts v;refine List.map_congr_left fun p hm=> ?_;rw[v p.2 (by simp;exact⟨p.1,by simpa using hm⟩)]
 have D:∀(xs:Array Operand),(∀x∈xs,ev s x=ev j x)→xs.toList.map (ev s)=xs.toList.map (ev j):=by intro xs v;exact List.map_congr_left fun x hm=>v x (by simpa using hm)
 have mo:∀(o:Option Operand),(∀x∈o.toArray,ev s x=ev j x)→o.map (ev s)=o.map (ev j):=by
  intro o v;cases o with
  |none=>rfl
  |some x=>simp;exact v x (by simp)
 cases op<;>simp only[iT]
 case move x=>rw[h x (by simp[Op.operands])]
 case assign x=>rw[h x (by simp[Op.operands])]
 case pick c a b=>rw[h c (by simp[Op.operands]),h a (by simp[Op.operands]),h b (by simp[Op.operands])]
 case box e x=>rw[h x (by simp[Op.operands])]
 case build t parts=>rw[mp parts (by simpa[Op.operands]using h)]
 case buildSlice t n parts=>rw[mp parts (by simpa[Op.operands]using h)]
 case load t a=>rw[h a (by simp[Op.operands])]
 case store t a x=>rw[h a (by simp[Op.operands]),h x (by simp[Op.operands])]
 case nilCheck x=>rw[h x (by simp[Op.operands])]
 case binOp op t x y F=>rw[h x (by simp[Op.operands]),h y (by simp[Op.operands])]
 case unOp op t x=>rw[h x (by simp[Op.operands])]
 case convert a b x=>rw[h x (by simp[Op.operands])]
 case makeInterface t x=>rw[h x (by simp[Op.operands])]
 case makeFunc f first cap=>rw[D first (fun x u=>h x (by simp[Op.operands,u])),D cap (fun x u=>h x (by simp[Op.operands,u]))]
 case slice t x lo E mx=>
  rw[h x (by simp[Op.operands]),mo lo (fun y q=>h y (by simp[Op.operands];simp at q;simp[q])),mo E (fun y q=>h y (by simp[Op.operands];simp at q;simp[q])),
   mo mx (fun y q=>h y (by simp[Op.operands];simp at q;simp[q]))]
 case range t x=>rw[h x (by simp[Op.operands])]
 case next it str=>rw[h it (by simp[Op.operands])]
 case entry it=>rw[h it (by simp[Op.operands])]
 case makeSlice t l c=>rw[h l (by simp[Op.operands]),h c (by simp[Op.operands])]
 case fieldAddr t x f=>rw[h x (by simp[Op.operands])]
 case field t x f=>rw[h x (by simp[Op.operands])]
 case indexAddr t x i=>rw[h x (by simp[Op.operands]),h i (by simp[Op.operands])]
 case index t x i=>rw[h x (by simp[Op.operands]),h i (by simp[Op.operands])]
 case extract x i=>rw[h x (by simp[Op.operands])]
 case panic x=>rw[h x (by simp[Op.operands])]
 case call c=>
  obtain⟨callee,args,A⟩:=c;cases callee
  case builtin b=>show bA P σ b A.toList (args.toList.map (ev s)) K=bA P σ b A.toList (args.toList.map (ev j)) K;rw[D args (fun x u=>h x (by simp[Op.operands,Call.operands,u]))]
  all_goals rfl
theorem xt {ops:Array Oper}{n:Nat}{o:Oper}{s u:Fr}{v y:AV→AS→Prop}(h:∀t∈o.looksAt ops,s t=u t):Co P ops n o s σ v y=Co P ops n o u σ v y:=by
 have l:∀x∈o.op.operands,ev s x=ev u x:=by
  intro x E;cases x with
  |tmp t=>refine h t ?_;unfold Oper.looksAt;refine List.mem_append.2 (.inl ?_);rw[List.mem_filterMap];exact⟨.tmp t,by simpa using E,rfl⟩
  | _ =>rfl
 have D:∀j want,o.guard=some (j,want)→fy ops s j=fy ops u j:=by
  intro j want D;unfold fy;cases F:(ops[j]?).bind (·.dst)with
  |none=>rfl
  |some d=>simp only;refine h d ?_;unfold Oper.looksAt;refine List.mem_append.2 (.inr ?_);rw[D];simp[F]
 have q:bX P o.op s σ v y=bX P o.op u σ v y:=by
  obtain⟨dst,op,ty,pos,after,guard⟩:=o;simp only at l⊢;unfold bX;cases op
  case call c=>
   obtain⟨callee,args,H⟩:=c;cases callee
   case value f=>simp only;rw[l f (by simp[Op.operands,Call.operands])];congr 1;exact List.map_congr_left fun x hm=>l x (by simp[Op.operands,Call.operands];right;simpa using hm)
   all_goals exact xF _ l
  all_goals exact xF _ l
 unfold Co;rw[q];cases A:o.guard with
 |none=>rfl
 |some p=>obtain⟨j,want⟩:=p;simp only[D j want A]
end Go.AW
namespace Go.AW
variable {P:Program} {σ:AS}
def Bs (X:(AV→Prop)→Prop):Prop:= ∀K,X K→ ∃v,K v∧ ∀j,j v→X j
theorem vD (t:TypeId) (x:AV):Bs (ew P σ t x):=by
 intro K h;unfold ew at h;split at h
 ·rename_i hl;split at h
  ·rename_i l;exact⟨_,h.2,fun o j=>by simp only[ew,hl,l];exact⟨h.1,j⟩⟩
  ·exact h.elim
 ·rename_i hl;split at h
  ·rename_i l;exact⟨_,h.2.2,fun o j=>by simp only[ew,hl,l];exact⟨h.1,h.2.1,j⟩⟩
  ·exact h.elim
 ·rename_i hl;exact⟨_,h.2,fun o j=>by simp only[ew,hl];exact⟨h.1,j⟩⟩
 ·rename_i hl;exact⟨_,h.2.2,fun o j=>by simp only[ew,hl];exact⟨h.1,h.2.1,j⟩⟩
 ·exact h.elim
theorem Fp {t:TypeId} :∀(parts:List (Nat×AV)) (cs:List AV) (K:List AV→Prop),jO P t cs parts K→ ∃v,K v∧ ∀j,j v→jO P t cs parts j:=by
 intro parts;induction parts with
 |nil=>intro cs K h;exact⟨cs,h,fun j l=>l⟩
 |cons p r q=>
  intro cs K h;obtain⟨i,v⟩:=p;simp only[jO]at h;split at h
  ·rename_i off n u;obtain⟨o,h1,y⟩:=q _ _ h.2.2.2.2;exact⟨o,h1,fun j l=>by simp only[jO,u];exact⟨h.1,h.2.1,h.2.2.1,h.2.2.2.1,y j l⟩⟩
  ·exact h.elim
theorem sf (t:TypeId) (parts:List (Nat×AV)):Bs (oS P t parts):=by intro K h;obtain⟨h1,q,o⟩:=h;obtain⟨v,k1,j⟩:=Fp _ _ _ o;exact⟨_,k1,fun u l=>⟨h1,q,j (fun cs=>u (.agg cs)) l⟩⟩
theorem kH (t:TypeId) (n:Nat) (parts:List (Nat×AV)) (K:AV→AS→Prop) (h:ey P σ t n parts K):∃v,K v σ∧ ∀(σ':AS) (j:AV→AS→Prop),j v σ'→ey P σ' t n parts j:=by
 unfold ey at h;split at h
 ·rename_i e he;obtain⟨h1,D,A,y,u,q,o⟩:=h;exact⟨_,o,fun σ' j l=>by simp only[ey,he];exact⟨h1,D,A,y,u,q,l⟩⟩
 ·exact h.elim
theorem ni (x:AV):Bs (gw x):=by intro K h;unfold gw at h;split at h<;>first|exact h.elim|exact⟨_,h,fun l j=>j⟩
theorem Fq {op:BinOp}{k:IntKind}{a b:Int}{Q:Value→Prop}(h:eL op k a b Q):∃v,Q v∧ ∀l,l v→eL op k a b l:=by cases op<;>simp only[eL]at h⊢ <;>first|exact h.elim|exact⟨_,h,fun _ j=>j⟩|exact⟨_,h.2,fun _ j=>⟨h.1,j⟩⟩
theorem It {op:BinOp}{k:IntKind}{a b:Int}{Q:Value→Prop}(h:s7 op k a b Q):∃v,Q v∧ ∀j,j v→s7 op k a b j:=by cases op<;>simp only[s7]at h⊢ <;>first|exact h.elim|exact⟨_,h.2,fun _ l=>⟨h.1,l⟩⟩
theorem Fo {op:BinOp}{a b:ByteArray}{Q:Value→Prop}(h:pD op a b Q):∃v,Q v∧ ∀l,l v→pD op a b l:=by cases op<;>simp only[pD]at h⊢ <;>first|exact h.elim|exact⟨_,h,fun _ j=>j⟩|exact⟨_,h.2,fun _ j=>⟨h.1,j⟩⟩
theorem yQ (op:BinOp) (t:TypeId) (x y:AV):Bs (eX P op t x y):=by
 intro K h;unfold eX at h;split at h
 ·rename_i k a k' b;split at h
  ·rename_i u;obtain⟨v,h1,o⟩:=It h;exact⟨_,h1,fun l j=>by simp only[eX,u,if_true];exact o (fun v=>l (.sc v)) j⟩
  ·rename_i u;obtain⟨v,h1,o⟩:=Fq h.2;exact⟨_,h1,fun l j=>by simp only[eX,u];exact⟨h.1,o (fun v=>l (.sc v)) j⟩⟩
 ·obtain⟨v,h1,o⟩:=Fo h;exact⟨_,h1,fun l j=>by simp only[eX];exact o (fun v=>l (.sc v)) j⟩
 ·split at h
  ·rename_i r he;exact⟨_,h.2,fun l j=>by simp only[eX,he];exact⟨h.1,j⟩⟩
  ·rename_i r he;exact⟨_,h.2,fun l j=>by simp only[eX,he];exact⟨h.1,j⟩⟩
  ·exact h.elim
 ·split at h
  ·rename_i hu;exact⟨_,h,fun l j=>by simp only[eX,hu];exact j⟩
  ·rename_i hu;exact⟨_,h,fun l j=>by simp only[eX,hu];exact j⟩
  ·exact h.elim
 ·rename_i h1 o E D;have q:∀l,cZ P op t x y l→eX P op t x y l:=by
   intro l j;unfold eX;split
   ·exact(h1 _ _ _ _ rfl rfl).elim
   ·exact(o _ _ rfl rfl).elim
   ·exact(E _ _ rfl rfl).elim
   ·exact(D _ _ rfl rfl).elim
   ·exact j
  unfold cZ at h;split at h
  ·rename_i A;split at h
   ·rename_i r he;exact⟨_,h,fun l j=>q l (by simp only[cZ,A,if_true,he];exact j)⟩
   ·rename_i r he;exact⟨_,h,fun l j=>q l (by simp only[cZ,A,if_true,he];exact j)⟩
   ·exact h.elim
  ·exact h.elim
theorem Cx (op:UnOp) (x:AV):Bs (Lc op x):=by intro K h;unfold Lc at h;split at h<;>first|exact h.elim|exact⟨_,h,fun l j=>j⟩
theorem oH (a b:TypeId) (x:AV):Bs (cU P a b x):=by
 intro K h;unfold cU at h;split at h
 ·rename_i j o;exact⟨_,h,fun q l=>by simp only[cU,j,o];exact l⟩
 ·rename_i d s j o;exact⟨_,h,fun q l=>by cases d<;>simp only[cU,j,o]<;>exact l⟩
 ·rename_i j o;exact⟨_,h.2,fun q l=>by simp only[cU,j,o];exact⟨h.1,l⟩⟩
 ·rename_i j o;obtain⟨h1,y,u⟩:=h;split at u
  ·rename_i A v;exact⟨_,u,fun q l=>by simp only[cU,j,o,v];exact⟨h1,y,l⟩⟩
  ·exact u.elim
 ·rename_i j o;exact⟨_,h.2.2.2,fun q l=>by simp only[cU,j,o];exact⟨h.1,h.2.1,h.2.2.1,l⟩⟩
 ·exact h.elim
theorem ko {x:Option AV}{d:Nat}{K:Nat→Prop}(h:iX x d K):∃k,K k∧ ∀j,j k→iX x d j:=by
 unfold iX at h;split at h
 ·exact⟨_,h,fun j l=>l⟩
 ·exact⟨_,h.2,fun j l=>⟨h.1,l⟩⟩
 ·exact h.elim
theorem rZ (t:TypeId) (x:AV) (lo H mx:Option AV):Bs (fQ P t x lo H mx):=by
 intro K h;unfold fQ at h;split at h
 ·exact h.elim
 ·split at h
  ·rename_i s;obtain⟨h1,D⟩:=h;obtain⟨k,⟨y,v⟩,u⟩:=ko D;obtain⟨l,⟨q,o⟩,j⟩:=ko v;exact⟨_,o,fun F A=>by simp only[fQ];exact⟨h1,u _ ⟨y,j _ ⟨q,A⟩⟩⟩⟩
  ·rename_i e elems own nil;obtain⟨h1,h0,D⟩:=h;obtain⟨k,⟨y,v⟩,u⟩:=ko D;obtain⟨l,⟨q,o⟩,j⟩:=ko v;exact⟨_,o,fun F A=>by simp only[fQ];exact⟨h1,h0,u _ ⟨y,j _ ⟨q,A⟩⟩⟩⟩
  ·rename_i id off len cap;split at h
   ·rename_i e he;obtain⟨h0,D⟩:=h;obtain⟨k,⟨y,v⟩,u⟩:=ko D;obtain⟨l,⟨q,E,o⟩,j⟩:=ko v;exact⟨_,o,fun F A=>by simp only[fQ,he];exact⟨h0,u _ ⟨y,j _ ⟨q,E,A⟩⟩⟩⟩
   ·exact h.elim
  ·exact h.elim
theorem lQ (t:TypeId) (x:AV) (f:Nat):Bs (dR P t x f):=by
 intro K h;unfold dR at h;split at h
 ·rename_i l hu;obtain⟨hn,h⟩:=h;split at h
  ·exact⟨_,h,fun o j=>by simp only[dR,l,hu];exact⟨hn,j⟩⟩
  ·exact⟨_,h,fun o j=>by simp only[dR,l,hu];exact⟨hn,j⟩⟩
  ·exact h.elim
 ·exact h.elim
theorem sa (t:TypeId) (x:AV) (f:Nat):Bs (kM P t x f):=by
 intro K h;unfold kM at h;split at h
 ·rename_i hf;exact⟨_,h.2,fun l j=>by simp only[kM,hf];exact⟨h.1,j⟩⟩
 ·rename_i hf;exact⟨_,h.2.2,fun l j=>by simp only[kM,hf];exact⟨h.1,h.2.1,j⟩⟩
 ·exact h.elim
theorem lP (t:TypeId) (x i:AV):Bs (cM P t x i):=by
 intro K h;unfold cM at h;split at h
 ·split at h
  ·obtain⟨h1,u,q,o,l⟩:=h;exact⟨_,l,fun v j=>⟨h1,u,q,o,j⟩⟩
  ·split at h
   ·rename_i he;obtain⟨u,q,o,l⟩:=h;exact⟨_,l,fun v j=>by simp only[cM,he];exact⟨u,q,o,j⟩⟩
   ·exact h.elim
  ·split at h
   ·rename_i he;obtain⟨u,q,o,l⟩:=h;exact⟨_,l,fun v j=>by simp only[cM,he];exact⟨u,q,o,j⟩⟩
   ·exact h.elim
  ·split at h
   ·rename_i he;obtain⟨u,q,o,l⟩:=h;exact⟨_,l,fun v j=>by simp only[cM,he];exact⟨u,q,o,j⟩⟩
   ·exact h.elim
  ·exact h.elim
 ·exact h.elim
theorem r9 (t:TypeId) (x i:AV):Bs (jP P t x i):=by
 intro K h;unfold jP at h;split at h
 ·obtain⟨h1,q,o,l⟩:=h;exact⟨_,l,fun v j=>⟨h1,q,o,j⟩⟩
 ·split at h
  ·rename_i he;split at h
   ·rename_i hl;obtain⟨q,o,l,u⟩:=h;exact⟨_,u,fun v j=>by simp only[jP,he,hl];exact⟨q,o,l,j⟩⟩
   ·rename_i hl;obtain⟨h1,q,o,l,u⟩:=h;exact⟨_,u,fun v j=>by simp only[jP,he,hl];exact⟨h1,q,o,l,j⟩⟩
   ·exact h.elim
  ·exact h.elim
 ·exact h.elim
theorem oG (x:AV) (i:Nat):Bs (jB x i):=by
 intro K h;unfold jB at h;split at h
 ·exact⟨_,h.2,fun l j=>⟨h.1,j⟩⟩
 ·exact h.elim
theorem yP (t:TypeId) (x:AV):Bs (iE P σ t x):=by
 intro K h;unfold iE at h;split at h
 ·rename_i hu;exact⟨_,h,fun l j=>by simp only[iE,hu];exact j⟩
 ·rename_i hu;exact⟨_,h,fun l j=>by simp only[iE,hu];exact j⟩
 ·rename_i hu;exact⟨_,h,fun l j=>by simp only[iE,hu];exact j⟩
 ·rename_i hu;exact⟨_,h,fun l j=>by simp only[iE,hu];exact j⟩
 ·rename_i hu;exact⟨_,h,fun l j=>by simp only[iE,hu];exact j⟩
 ·rename_i hu;split at h
  ·rename_i o;exact⟨_,h,fun l j=>by simp only[iE,hu,o];exact j⟩
  ·exact h.elim
 ·rename_i hu;exact⟨_,h,fun l j=>by simp only[iE,hu];exact j⟩
 ·exact h.elim
end Go.AW
namespace Go.AW
variable {P:Program} {σ:AS}
theorem eV {X:(AV→Prop)→Prop}(o:Bs X) {K j:AV→Prop}(h:X K) (l:∀v,K v→j v):X j:=by obtain⟨v,h1,q⟩:=o K h;exact q j (l v h1)
theorem za {t y:TypeId}{s x:AV}{K A:AV→AS→Prop}(u:∀v σ,K v σ→A v σ) (h:lE P σ t y s x K):lE P σ t y s x A:=by
 unfold lE at h⊢;split
 ·rename_i e he;simp only[he]at h;obtain⟨h1,E,D,j⟩:=h;refine⟨h1,E,D,?_⟩;split
  ·rename_i xs q;simp only[q]at j;split
   ·simp only at j;exact⟨j.1,j.2.1,fun o l=>u _ _ (j.2.2 o l)⟩
   ·simp only at j;exact⟨j.1,j.2.1,j.2.2.1,fun o l=>u _ _ (j.2.2.2 o l)⟩
   ·simp only at j;exact⟨j.1,j.2.1,j.2.2.1,j.2.2.2.1,u _ _ j.2.2.2.2⟩
   ·rename_i a b c;split at j
    ·exact(a rfl).elim
    ·exact(b _ _ _ rfl).elim
    ·exact(c _ _ _ _ rfl).elim
    ·exact j.elim
  ·rename_i q;simp only[q]at j
 ·rename_i he;simp only[he]at h
theorem CU {t:TypeId}{x y:AV}{K q:AV→AS→Prop}(u:∀v σ,K v σ→q v σ) (h:fK P σ t x y K):fK P σ t x y q:=by
 unfold fK at h⊢;cases he:bC P t with
 |none=>simp only[he]at h
 |some e=>
  simp only[he]at h⊢;split at h
  ·rename_i id off len cap;cases l:σ id with
   |none=>simp only[l]at h
   |some zi=>
    cases zi<;>simp only[l]at h⊢;refine⟨h.1,h.2.1,?_⟩;have j:=h.2.2;cases o:bU P σ e y with
    |none=>simp only[o]at j
    |some r=>simp only[o]at j⊢;exact u _ _ j
  ·exact h.elim
theorem wH {b:Builtin}{ts:List TypeId}{args:List AV}{K l:AV→AS→Prop}(j:∀v σ,K v σ→l v σ) (h:bA P σ b ts args K):bA P σ b ts args l:=by
 unfold bA at h;split at h
 ·exact eV (yP _ _) h (fun v o=>j _ _ o)
 ·exact za j h
 ·exact CU j h
 ·exact j _ _ h
 ·exact j _ _ h
 ·exact h.elim
theorem A7 {s:Fr}{K F Pn A:AV→AS→Prop}(j:∀v σ,K v σ→F v σ) (D:∀v σ,Pn v σ→A v σ) (op:Op) (h:iT P s σ K Pn op):iT P s σ F A op:=by
 cases op<;>simp only[iT]at h⊢
 case move x=>exact j _ _ h
 case assign x=>exact j _ _ h
 case pick c a b=>
  split at h
  ·exact j _ _ h
  ·exact h.elim
 case alloc e=>exact⟨h.1,fun id q=>j _ _ (h.2 id q)⟩
 case box e x=>exact⟨h.1,fun id q=>j _ _ (h.2 id q)⟩
 case build t parts=>exact eV (sf _ _) h (fun v=>j v σ)
 case buildSlice t n parts=>obtain⟨v,h1,o⟩:=kH _ _ _ _ h;exact o _ _ (j _ _ h1)
 case load t a=>exact eV (vD _ _) h (fun v=>j v σ)
 case store t a x=>
  unfold oR at h⊢;split at h
  ·split at h
   ·exact⟨h.1,h.2.1,h.2.2.1,h.2.2.2.1,h.2.2.2.2.1,j _ _ h.2.2.2.2.2⟩
   ·exact h.elim
  ·exact h.elim
 case nilCheck x=>exact eV (ni _) h (fun v=>j v σ)
 case binOp op t x y O=>exact eV (yQ _ _ _ _) h (fun v=>j v σ)
 case unOp op t x=>exact eV (Cx _ _) h (fun v=>j v σ)
 case convert a b x=>exact eV (oH _ _ _) h (fun v=>j v σ)
 case makeInterface t x=>exact⟨h.1,j _ _ h.2⟩
 case makeFunc f first cap=>exact j _ _ h
 case makeMap t r=>exact⟨h.1,fun id q=>j _ _ (h.2 id q)⟩
 case range t x=>
  unfold lU at h⊢;split at h
  ·exact⟨h.1,fun id q=>j _ _ (h.2 id q)⟩
  ·split at h
   ·exact fun id q=>j _ _ (h id q)
   ·exact h.elim
  ·exact h.elim
 case next it str=>
  unfold ri at h⊢;split at h
  ·refine⟨h.1,?_⟩;have o:=h.2;split at o
   ·unfold Ab at o⊢;split at o
    ·exact⟨o.1,fun u=>j _ _ (o.2.1 u),fun k u E=>j _ _ (o.2.2 k u E)⟩
    ·exact o.elim
   ·exact o.elim
  ·refine⟨h.1,?_⟩;have o:=h.2;split at o
   ·rename_i b pos _;unfold xh at o⊢;by_cases D:pos<b.size
    ·rw[if_pos D]at o⊢;exact j _ _ o
    ·rw[if_neg D]at o⊢;exact j _ _ o
   ·exact o.elim
  ·exact h.elim
 case entry it=>
  unfold so at h⊢;split at h
  ·refine⟨h.1,?_⟩;have o:=h.2;split at o
   ·split at o
    ·exact⟨o.1,j _ _ o.2⟩
    ·exact o.elim
   ·exact o.elim
  ·exact h.elim
 case makeSlice t l c=>
  unfold iz at h⊢;split at h
  ·obtain⟨h1,o,u,E,L,J,I,H⟩:=h;exact⟨h1,o,u,E,L,J,I,fun id q=>j _ _ (H id q)⟩
  ·exact h.elim
 case slice t x lo S mx=>exact eV (rZ _ _ _ _ _) h (fun v=>j v σ)
 case fieldAddr t x f=>exact eV (lQ _ _ _) h (fun v=>j v σ)
 case field t x f=>exact eV (sa _ _ _) h (fun v=>j v σ)
 case indexAddr t x i=>exact eV (lP _ _ _) h (fun v=>j v σ)
 case index t x i=>exact eV (r9 _ _ _) h (fun v=>j v σ)
 case extract x i=>exact eV (oG _ _) h (fun v=>j v σ)
 case panic x=>
  split at h
  ·exact D _ _ h
  ·exact h.elim
 case call c=>
  obtain⟨callee,args,M⟩:=c;cases callee
  case builtin b=>exact wH j h
  all_goals exact h.elim
theorem CV {E:AV}{args:List AV}{K F H l:AV→AS→Prop}(D:∀v σ,K v σ→H v σ) (A:∀v σ,F v σ→l v σ) (h:aj P E args σ K F):aj P E args σ H l:=by
 unfold aj at h⊢;split at h
 ·obtain⟨h1,I,R,y,u,q,o⟩:=h;exact⟨h1,I,R,y,u,fun r σ' j=>D _ _ (q r σ' j),fun r σ' j=>A _ _ (o r σ' j)⟩
 ·obtain⟨R,y,u,q,o⟩:=h;exact⟨R,y,u,fun r σ' j=>D _ _ (q r σ' j),fun r σ' j=>A _ _ (o r σ' j)⟩
 ·exact h.elim
theorem uE {op:Op}{s:Fr}{K q u j:AV→AS→Prop}(o:∀v σ,K v σ→u v σ) (l:∀v σ,q v σ→j v σ) (h:bX P op s σ K q):bX P op s σ u j:=by
 unfold bX at h⊢;cases op
 case call c=>
  obtain⟨callee,args,y⟩:=c;cases callee
  case value f=>exact CV o l h
  all_goals exact A7 o l _ h
 all_goals exact A7 o l _ h
theorem qN {ops:Array Oper}{n:Nat}{o:Oper}{s:Fr}{K D E l:AV→AS→Prop}(u:∀v σ,K v σ→E v σ) (A:∀v σ,D v σ→l v σ) (h:Co P ops n o s σ K D):Co P ops n o s σ E l:=by
 unfold Co at h⊢;refine⟨h.1,?_⟩;have q:=h.2;split
 ·rename_i y;simp only[y]at q;exact uE u A q
 ·rename_i j want y;simp only[y]at q;exact og q (uE u A) (u _ _)
def qK:List AV→Bool
 |[.ah ..]|[.aC]|[.dg ..]|[.sc _]=>true
 | _ =>false
def jH (s:Fr) (op:Op):Bool:=
 match op with
 |.move _ |.assign _ |.pick .. |.build .. |.buildSlice .. |.nilCheck _ |.binOp .. |.unOp .. |.convert .. |.makeInterface .. |.makeFunc .. |.slice ..
 |.fieldAddr .. |.field .. |.indexAddr .. |.index .. |.extract .. =>true
 |.load _ a=>match ev s a with|.g0 _ =>true| _ =>false
 |.call c=>match c.callee with
  |.builtin .len=>qK (c.args.toList.map (ev s))
  |.builtin .min=>true
  |.builtin .max=>true
  | _ =>false
 | _ =>false
def gB (op:Op):Bool:=
 match op with
 |.move _ |.assign _ |.pick .. |.build .. |.buildSlice .. |.nilCheck _ |.binOp .. |.unOp .. |.convert .. |.makeInterface .. |.makeFunc .. |.slice ..
 |.fieldAddr .. |.field .. |.indexAddr .. |.index .. |.extract .. |.load .. =>true
 |.call c=>match c.callee with
  |.builtin .len=>true
  |.builtin .min=>true
  |.builtin .max=>true
  | _ =>false
 | _ =>false
theorem Hb {op:Op}{s:Fr}{D I:AV→AS→Prop}(E:gB op=true) (h:bX P op s σ D I):∃v,D v σ∧ ∀j l:AV→AS→Prop,j v σ→bX P op s σ j l:=by
 have lift:∀ {X:(AV→Prop)→Prop},Bs X→X (fun v=>D v σ)→(∀(j l:AV→AS→Prop),X (fun v=>j v σ)→bX P op s σ j l)→ ∃v,D v σ∧ ∀j l:AV→AS→Prop,j v σ→bX P op s σ j l:=by intro X J o M;obtain⟨v,h1,F⟩:=J _ o;exact⟨v,h1,fun j l q=>M j l (F (fun v=>j v σ) q)⟩
 cases op<;>(try simp only[gB]at E)<;>first|(cases E;done)|skip
 case move x=>exact⟨_,h,fun _ _ q=>q⟩
 case assign x=>exact⟨_,h,fun _ _ q=>q⟩
 case pick c a b=>
  have u:iT P s σ D I (.pick c a b):=h;simp only[iT]at u;split at u
  ·rename_i t L;exact⟨_,u,fun j l q=>by show iT P s σ j l (.pick c a b);simp only[iT,L];exact q⟩
  ·exact u.elim
 case build t parts=>exact lift (sf _ _) h (fun _ _ o=>o)
 case buildSlice t n parts=>obtain⟨v,h1,F⟩:=kH _ _ _ _ h;exact⟨v,h1,fun j l q=>F σ j q⟩
 case load t a=>exact lift (vD _ _) h (fun _ _ o=>o)
 case nilCheck x=>exact lift (ni _) h (fun _ _ o=>o)
 case binOp op t x y T=>exact lift (yQ _ _ _ _) h (fun _ _ o=>o)
 case unOp op t x=>exact lift (Cx _ _) h (fun _ _ o=>o)
 case convert a b x=>exact lift (oH _ _ _) h (fun _ _ o=>o)
 case makeInterface t x=>exact⟨_,h.2,fun _ _ q=>⟨h.1,q⟩⟩
 case makeFunc f first cap=>exact⟨_,h,fun _ _ q=>q⟩
 case slice t x lo U mx=>exact lift (rZ _ _ _ _ _) h (fun _ _ o=>o)
 case fieldAddr t x f=>exact lift (lQ _ _ _) h (fun _ _ o=>o)
 case field t x f=>exact lift (sa _ _ _) h (fun _ _ o=>o)
 case indexAddr t x i=>exact lift (lP _ _ _) h (fun _ _ o=>o)
 case index t x i=>exact lift (r9 _ _ _) h (fun _ _ o=>o)
 case extract x i=>exact lift (oG _ _) h (fun _ _ o=>o)
 case call c=>
  obtain⟨callee,args,A⟩:=c;cases callee
  case builtin b=>
   have u:bA P σ b A.toList (args.toList.map (ev s)) D:=h;unfold bA at u;split at u
   ·rename_i t x O H;obtain⟨v,h1,F⟩:=yP _ _ _ u;refine⟨v,h1,fun j l q=> ?_⟩;show bA P σ .len A.toList (args.toList.map (ev s)) j;rw[O,H];exact F (fun v=>j v σ) q
   ·simp[gB]at E
   ·simp[gB]at E
   ·rename_i k a k' S H;refine⟨_,u,fun j l q=> ?_⟩;show bA P σ .min A.toList (args.toList.map (ev s)) j;rw[H];exact q
   ·rename_i k a k' S H;refine⟨_,u,fun j l q=> ?_⟩;show bA P σ .max A.toList (args.toList.map (ev s)) j;rw[H];exact q
   ·exact u.elim
  all_goals simp[gB]at E
theorem zL {op:Op}{s:Fr}{I L:AV→AS→Prop}(F:jH s op=true) (h:bX P op s σ I L):∃v,I v σ∧ ∀(σ':AS) (j l:AV→AS→Prop),j v σ'→bX P op s σ' j l:=by
 have lift:∀ {X:(AV→Prop)→Prop},Bs X→X (fun v=>I v σ)→(∀(σ':AS) (j l:AV→AS→Prop),X (fun v=>j v σ')→bX P op s σ' j l)→ ∃v,I v σ∧ ∀(σ':AS) (j l:AV→AS→Prop),j v σ'→bX P op s σ' j l:=by intro X O q T;obtain⟨v,h1,H⟩:=O _ q;exact⟨v,h1,fun σ' j l u=>T σ' j l (H (fun v=>j v σ') u)⟩
 cases op<;>(try simp only[jH]at F)<;>first|(cases F;done)|skip
 case move x=>exact⟨_,h,fun _ _ _ u=>u⟩
 case assign x=>exact⟨_,h,fun _ _ _ u=>u⟩
 case pick c a b=>
  have A:iT P s σ I L (.pick c a b):=h;simp only[iT]at A;split at A
  ·rename_i t S;exact⟨_,A,fun σ' j l u=>by show iT P s σ' j l (.pick c a b);simp only[iT,S];exact u⟩
  ·exact A.elim
 case build t parts=>exact lift (sf _ _) h (fun _ _ _ q=>q)
 case buildSlice t n parts=>obtain⟨v,h1,H⟩:=kH _ _ _ _ h;exact⟨v,h1,fun σ' j l u=>H σ' j u⟩
 case load t a=>
  have A:ew P σ t (ev s a) (fun v=>I v σ):=h;cases q:ev s a<;>(try simp only[q]at F)<;>first|(cases F;done)|skip
  rename_i cells;have ind:∀(σ':AS) (K:AV→Prop),ew P σ t (.g0 cells) K→ew P σ' t (.g0 cells) K:=by intro σ' K J;unfold ew at J⊢;cases hl:fC P t<;>simp only[hl]at J⊢ <;>exact J
  rw[q]at A;obtain⟨v,h1,H⟩:=vD _ _ _ A;exact⟨v,h1,fun σ' j l u=>by show ew P σ' t (ev s a) (fun v=>j v σ');rw[q];exact ind σ' _ (H (fun v=>j v σ') u)⟩
 case nilCheck x=>exact lift (ni _) h (fun _ _ _ q=>q)
 case binOp op t x y Z=>exact lift (yQ _ _ _ _) h (fun _ _ _ q=>q)
 case unOp op t x=>exact lift (Cx _ _) h (fun _ _ _ q=>q)
 case convert a b x=>exact lift (oH _ _ _) h (fun _ _ _ q=>q)
 case makeInterface t x=>exact⟨_,h.2,fun _ _ _ u=>⟨h.1,u⟩⟩
 case makeFunc f first cap=>exact⟨_,h,fun _ _ _ u=>u⟩
 case slice t x lo hi mx=>exact lift (rZ _ _ _ _ _) h (fun _ _ _ q=>q)
 case fieldAddr t x f=>exact lift (lQ _ _ _) h (fun _ _ _ q=>q)
 case field t x f=>exact lift (sa _ _ _) h (fun _ _ _ q=>q)
 case indexAddr t x i=>exact lift (lP _ _ _) h (fun _ _ _ q=>q)
 case index t x i=>exact lift (r9 _ _ _) h (fun _ _ _ q=>q)
 case extract x i=>exact lift (oG _ _) h (fun _ _ _ q=>q)
 case call c=>
  obtain⟨callee,args,E⟩:=c;cases callee
  case builtin b=>
   have A:bA P σ b E.toList (args.toList.map (ev s)) I:=h;unfold bA at A;split at A
   ·rename_i t x V D;obtain⟨o,rfl⟩:∃o,args= #[o]:=by
     cases hl:args.toList with
     |nil=>rw[hl]at D;simp at D
     |cons o r=>rw[hl]at D;simp at D;obtain⟨_,rfl⟩:=D;exact⟨o,B5 hl⟩
    have U:ev s o=x:=by simpa using D
    have M:qK [x]=true:=by have:qK ((#[o]:Array Operand).toList.map (ev s))=true:=F;simpa[U]using this
    have ind:∀(σ':AS) (K:AV→Prop),iE P σ t x K→iE P σ' t x K:=by intro σ' K J;unfold iE at J⊢;split at J<;>simp_all [qK]
    obtain⟨v,h1,H⟩:=yP _ _ _ A;refine⟨v,h1,fun σ' j l u=> ?_⟩;show bA P σ' .len E.toList ((#[o]:Array Operand).toList.map (ev s)) j;rw[V,D];exact ind σ' _ (H (fun v=>j v σ') u)
   ·simp[jH]at F
   ·simp[jH]at F
   ·rename_i k a k' Y D;refine⟨_,A,fun σ' j l u=> ?_⟩;show bA P σ' .min E.toList (args.toList.map (ev s)) j;rw[D];exact u
   ·rename_i k a k' Y D;refine⟨_,A,fun σ' j l u=> ?_⟩;show bA P σ' .max E.toList (args.toList.map (ev s)) j;rw[D];exact u
   ·exact A.elim
  all_goals simp[jH]at F
theorem Kq {σ':AS}{t:TypeId}{x:AV}{K:AV→Prop}(hle:AS.le σ σ') (h:ew P σ t x K):∃v,K v∧ ∀l:AV→Prop,l v→ew P σ' t x l:=by
 unfold ew at h;split at h
 ·rename_i hl;split at h
  ·rename_i o;exact⟨_,h.2,fun l j=>by simp only[ew,hl,hle _ _ o];exact⟨h.1,j⟩⟩
  ·exact h.elim
 ·rename_i hl;split at h
  ·rename_i o;exact⟨_,h.2.2,fun l j=>by simp only[ew,hl,hle _ _ o];exact⟨h.1,h.2.1,j⟩⟩
  ·exact h.elim
 ·rename_i hl;exact⟨_,h.2,fun l j=>by simp only[ew,hl];exact⟨h.1,j⟩⟩
 ·rename_i hl;exact⟨_,h.2.2,fun l j=>by simp only[ew,hl];exact⟨h.1,h.2.1,j⟩⟩
 ·exact h.elim
theorem Nc {σ':AS}{t:TypeId}{x:AV}{K:AV→Prop}(hle:AS.le σ σ') (h:iE P σ t x K):∃v,K v∧ ∀j:AV→Prop,j v→iE P σ' t x j:=by
 unfold iE at h;split at h;all_goals first
  |exact h.elim
  |(rename_i hu;exact⟨_,h,fun j l=>by simp only[iE,hu];exact l⟩)
  |(rename_i hu;split at h
    ·rename_i o;exact⟨_,h,fun j l=>by simp only[iE,hu,hle _ _ o];exact l⟩
    ·exact h.elim)
theorem Dg {op:Op}{s:Fr}{F J:AV→AS→Prop}(o:gB op=true) (h:bX P op s σ F J):∃v,F v σ∧ ∀σ',AS.le σ σ'→ ∀j l:AV→AS→Prop,j v σ'→bX P op s σ' j l:=by
 by_cases y:jH s op=true
 ·obtain⟨v,h1,D⟩:=zL y h;exact⟨v,h1,fun σ' _ j l A=>D σ' j l A⟩
 ·obtain⟨v,h1,D⟩:=Hb o h;refine⟨v,h1,fun σ' hle j l A=> ?_⟩;cases op<;>(try simp only[gB]at o)<;>(try simp[jH]at y)<;>first|(cases o;done)|skip
  case load t a=>obtain⟨u,g1,g2⟩:=Kq (K:=fun x=>x=v) hle (D (fun x _ =>x=v) (fun _ _ =>True) rfl);exact g2 (fun x=>j x σ') (g1 ▸ A)
  case call c=>
   obtain⟨callee,args,q⟩:=c;cases callee
   case builtin b=>
    have E:bA P σ b q.toList (args.toList.map (ev s)) (fun x _ =>x=v):=D (fun x _ =>x=v) (fun _ _ =>True) rfl;unfold bA at E;split at E
    ·rename_i t x I H;obtain⟨u,g1,g2⟩:=Nc (K:=fun x=>x=v) hle E;show bA P σ' .len q.toList (args.toList.map (ev s)) j;rw[I,H];exact g2 (fun x=>j x σ') (g1 ▸ A)
    ·simp[gB]at o
    ·simp[gB]at o
    ·simp at y
    ·simp at y
    ·exact E.elim
   all_goals simp[gB]at o
def qM (op:Op):Bool:=gB op||(match op with|.alloc _ =>true| _ =>false)
theorem Ax {op:Op}(h:gB op=true):qM op=true:=by simp[qM,h]
theorem zz {op:Op}{s:Fr}{l u:AV→AS→Prop}(y:qM op=true) (h:bX P op s σ l u):bX P op s σ (fun v σ'=>AS.le σ σ'∧l v σ') u:=by
 by_cases q:gB op=true
 ·obtain⟨v,h1,A⟩:=Dg q h;exact A σ (AS.le_refl _) _ _ ⟨AS.le_refl _,h1⟩
 ·cases op<;>simp[qM,q]at y;rename_i e;have o:qg P σ e l:=h;show qg P σ e (fun v σ'=>AS.le σ σ'∧l v σ');unfold qg at o⊢;exact⟨o.1,fun id j=>⟨AS.ao (AS.le_refl _) j,o.2 id j⟩⟩
end Go.AW
