/- A layer of abstract values over the model's machine: own work for this claim, part AwPure. -/
import Derived.Test.YtknalmoackcpbaaGreatAwOps5
set_option linter.all false
open Go Go.RowKit List
namespace Go.AW
variable {P:Program} {σ:AS}
def DA (X:(AV→Prop)→Prop):Prop:= ∀K,X K→ ∃v,K v∧ ∀h,h v→X h
def xz (t:TypeId) (x:AV):DA (eX P σ t x):=by
 intro K h;unfold eX at h;split at h
 ·rename_i hl;split at h
  ·rename_i j;exact⟨_,h.2,fun l i=>by simp only[eX,hl,j];exact⟨h.1,i⟩⟩
  ·exact h.elim
 ·rename_i hl;split at h
  ·rename_i j;exact⟨_,h.2.2,fun l i=>by simp only[eX,hl,j];exact⟨h.1,h.2.1,i⟩⟩
  ·exact h.elim
 ·rename_i hl;exact⟨_,h.2,fun l i=>by simp only[eX,hl];exact⟨h.1,i⟩⟩
 ·rename_i hl;exact⟨_,h.2.2,fun l i=>by simp only[eX,hl];exact⟨h.1,h.2.1,i⟩⟩
 ·exact h.elim
def HS {t:TypeId} :∀(parts:List (Nat×AV)) (cs:List AV) (K:List AV→Prop),nz P t cs parts K→ ∃v,K v∧ ∀j,j v→nz P t cs parts j:=by
 intro parts;induction parts with
 |nil=>intro cs K h;exact⟨cs,h,fun j l=>l⟩
 |cons p r u=>
  intro cs K h;obtain⟨i,v⟩:=p;simp only[nz]at h;split at h
  ·rename_i off n w;obtain⟨q,h1,E⟩:=u _ _ h.2.2.2.2;exact⟨q,h1,fun j l=>by simp only[nz,w];exact⟨h.1,h.2.1,h.2.2.1,h.2.2.2.1,E j l⟩⟩
  ·exact h.elim
def uf (t:TypeId) (parts:List (Nat×AV)):DA (rL P t parts):=by intro K h;obtain⟨h1,q,l⟩:=h;obtain⟨v,k1,i⟩:=HS _ _ _ l;exact⟨_,k1,fun u j=>⟨h1,q,i (fun cs=>u (.agg cs)) j⟩⟩
def lU (t:TypeId) (n:Nat) (parts:List (Nat×AV)) (K:AV→AS→Prop) (h:ez P σ t n parts K):∃v,K v σ∧ ∀(i:AS) (j:AV→AS→Prop),j v i→ez P i t n parts j:=by
 unfold ez at h;split at h
 ·rename_i e he;obtain⟨h1,G,F,E,w,u,q⟩:=h;exact⟨_,q,fun i j l=>by simp only[ez,he];exact⟨h1,G,F,E,w,u,l⟩⟩
 ·exact h.elim
def oJ (x:AV):DA (iM x):=by intro K h;unfold iM at h;split at h<;>first|exact h.elim|exact⟨_,h,fun j i=>i⟩
def HT {op:BinOp}{k:IntKind}{a b:Int}{Q:Value→Prop}(h:fj op k a b Q):∃v,Q v∧ ∀j,j v→fj op k a b j:=by cases op<;>simp only[fj]at h⊢ <;>first|exact h.elim|exact⟨_,h,fun _ i=>i⟩|exact⟨_,h.2,fun _ i=>⟨h.1,i⟩⟩
def K4 {op:BinOp}{k:IntKind}{a b:Int}{Q:Value→Prop}(h:yh op k a b Q):∃v,Q v∧ ∀i,i v→yh op k a b i:=by cases op<;>simp only[yh]at h⊢ <;>first|exact h.elim|exact⟨_,h.2,fun _ j=>⟨h.1,j⟩⟩
def HR {op:BinOp}{a b:ByteArray}{Q:Value→Prop}(h:uu op a b Q):∃v,Q v∧ ∀j,j v→uu op a b j:=by cases op<;>simp only[uu]at h⊢ <;>first|exact h.elim|exact⟨_,h,fun _ i=>i⟩|exact⟨_,h.2,fun _ i=>⟨h.1,i⟩⟩
def AY (op:BinOp) (t:TypeId) (x y:AV):DA (g9 P op t x y):=by
 intro K h;unfold g9 at h;split at h
 ·rename_i k a k' b;split at h
  ·rename_i u;obtain⟨v,h1,l⟩:=K4 h;exact⟨_,h1,fun j i=>by simp only[g9,u,if_true];exact l (fun v=>j (.sc v)) i⟩
  ·rename_i u;obtain⟨v,h1,l⟩:=HT h.2;exact⟨_,h1,fun j i=>by simp only[g9,u];exact⟨h.1,l (fun v=>j (.sc v)) i⟩⟩
 ·obtain⟨v,h1,l⟩:=HR h;exact⟨_,h1,fun j i=>by simp only[g9];exact l (fun v=>j (.sc v)) i⟩
 ·split at h
  ·rename_i r he;exact⟨_,h.2,fun j i=>by simp only[g9,he];exact⟨h.1,i⟩⟩
  ·rename_i r he;exact⟨_,h.2,fun j i=>by simp only[g9,he];exact⟨h.1,i⟩⟩
  ·exact h.elim
 ·split at h
  ·rename_i hu;exact⟨_,h,fun j i=>by simp only[g9,hu];exact i⟩
  ·rename_i hu;exact⟨_,h,fun j i=>by simp only[g9,hu];exact i⟩
  ·exact h.elim
 ·rename_i h1 l F E;have q:∀j,dE P op t x y j→g9 P op t x y j:=by
   intro j i;unfold g9;split
   ·exact(h1 _ _ _ _ rfl rfl).elim
   ·exact(l _ _ rfl rfl).elim
   ·exact(F _ _ rfl rfl).elim
   ·exact(E _ _ rfl rfl).elim
   ·exact i
  unfold dE at h;split at h
  ·rename_i w;split at h
   ·rename_i r he;exact⟨_,h,fun j i=>q j (by simp only[dE,w,if_true,he];exact i)⟩
   ·rename_i r he;exact⟨_,h,fun j i=>q j (by simp only[dE,w,if_true,he];exact i)⟩
   ·exact h.elim
  ·exact h.elim
def EI (op:UnOp) (x:AV):DA (QR op x):=by intro K h;unfold QR at h;split at h<;>first|exact h.elim|exact⟨_,h,fun j i=>i⟩
def pY (a b:TypeId) (x:AV):DA (fM P a b x):=by
 intro K h;unfold fM at h;split at h
 ·rename_i i hd;exact⟨_,h,fun l j=>by simp only[fM,i,hd];exact j⟩
 ·rename_i d s i hd;exact⟨_,h,fun l j=>by cases d<;>simp only[fM,i,hd]<;>exact j⟩
 ·rename_i i hd;exact⟨_,h.2,fun l j=>by simp only[fM,i,hd];exact⟨h.1,j⟩⟩
 ·rename_i i hd;obtain⟨h1,v,q⟩:=h;split at q
  ·rename_i w u;exact⟨_,q,fun l j=>by simp only[fM,i,hd,u];exact⟨h1,v,j⟩⟩
  ·exact q.elim
 ·rename_i i hd;exact⟨_,h.2.2.2,fun l j=>by simp only[fM,i,hd];exact⟨h.1,h.2.1,h.2.2.1,j⟩⟩
 ·exact h.elim
def lB {x:Option AV}{d:Nat}{K:Nat→Prop}(h:ka x d K):∃k,K k∧ ∀i,i k→ka x d i:=by
 unfold ka at h;split at h
 ·exact⟨_,h,fun i j=>j⟩
 ·exact⟨_,h.2,fun i j=>⟨h.1,j⟩⟩
 ·exact h.elim
def uc (t:TypeId) (x:AV) (lo I mx:Option AV):DA (gh P t x lo I mx):=by
 intro K h;unfold gh at h;split at h
 ·exact h.elim
 ·split at h
  ·rename_i s;obtain⟨h1,F⟩:=h;obtain⟨k,⟨w,v⟩,u⟩:=lB F;obtain⟨l,⟨q,j⟩,i⟩:=lB v;exact⟨_,j,fun H E=>by simp only[gh];exact⟨h1,u _ ⟨w,i _ ⟨q,E⟩⟩⟩⟩
  ·rename_i e elems own nil;obtain⟨h1,h0,F⟩:=h;obtain⟨k,⟨w,v⟩,u⟩:=lB F;obtain⟨l,⟨q,j⟩,i⟩:=lB v;exact⟨_,j,fun H E=>by simp only[gh];exact⟨h1,h0,u _ ⟨w,i _ ⟨q,E⟩⟩⟩⟩
  ·rename_i id off len cap;split at h
   ·rename_i e he;obtain⟨h0,F⟩:=h;obtain⟨k,⟨w,v⟩,u⟩:=lB F;obtain⟨l,⟨q,G,j⟩,i⟩:=lB v;exact⟨_,j,fun H E=>by simp only[gh,he];exact⟨h0,u _ ⟨w,i _ ⟨q,G,E⟩⟩⟩⟩
   ·exact h.elim
  ·exact h.elim
def nr (t:TypeId) (x:AV) (f:Nat):DA (fC P t x f):=by
 intro K h;unfold fC at h;split at h
 ·rename_i j hu;obtain⟨l,h⟩:=h;split at h
  ·exact⟨_,h,fun q i=>by simp only[fC,j,hu];exact⟨l,i⟩⟩
  ·exact⟨_,h,fun q i=>by simp only[fC,j,hu];exact⟨l,i⟩⟩
  ·exact h.elim
 ·exact h.elim
def ue (t:TypeId) (x:AV) (f:Nat):DA (oP P t x f):=by
 intro K h;unfold oP at h;split at h
 ·rename_i hf;exact⟨_,h.2,fun j i=>by simp only[oP,hf];exact⟨h.1,i⟩⟩
 ·rename_i hf;exact⟨_,h.2.2,fun j i=>by simp only[oP,hf];exact⟨h.1,h.2.1,i⟩⟩
 ·exact h.elim
def nj (t:TypeId) (x i:AV):DA (eG P t x i):=by
 intro K h;unfold eG at h;split at h
 ·split at h
  ·obtain⟨h1,v,u,q,l⟩:=h;exact⟨_,l,fun w j=>⟨h1,v,u,q,j⟩⟩
  ·split at h
   ·rename_i he;obtain⟨v,u,q,l⟩:=h;exact⟨_,l,fun w j=>by simp only[eG,he];exact⟨v,u,q,j⟩⟩
   ·exact h.elim
  ·split at h
   ·rename_i he;obtain⟨v,u,q,l⟩:=h;exact⟨_,l,fun w j=>by simp only[eG,he];exact⟨v,u,q,j⟩⟩
   ·exact h.elim
  ·split at h
   ·rename_i he;obtain⟨v,u,q,l⟩:=h;exact⟨_,l,fun w j=>by simp only[eG,he];exact⟨v,u,q,j⟩⟩
   ·exact h.elim
  ·exact h.elim
 ·exact h.elim
def ud (t:TypeId) (x i:AV):DA (oN P t x i):=by
 intro K h;unfold oN at h;split at h
 ·obtain⟨h1,u,q,l⟩:=h;exact⟨_,l,fun w j=>⟨h1,u,q,j⟩⟩
 ·split at h
  ·rename_i he;split at h
   ·rename_i hl;obtain⟨u,q,l,v⟩:=h;exact⟨_,v,fun w j=>by simp only[oN,he,hl];exact⟨u,q,l,j⟩⟩
   ·rename_i hl;obtain⟨h1,u,q,l,v⟩:=h;exact⟨_,v,fun w j=>by simp only[oN,he,hl];exact⟨h1,u,q,l,j⟩⟩
   ·exact h.elim
  ·exact h.elim
 ·exact h.elim
def pX (x:AV) (i:Nat):DA (l0 x i):=by
 intro K h;unfold l0 at h;split at h
 ·exact⟨_,h.2,fun l j=>⟨h.1,j⟩⟩
 ·exact h.elim
def AX (t:TypeId) (x:AV):DA (jz P σ t x):=by
 intro K h;unfold jz at h;split at h
 ·rename_i hu;exact⟨_,h,fun j i=>by simp only[jz,hu];exact i⟩
 ·rename_i hu;exact⟨_,h,fun j i=>by simp only[jz,hu];exact i⟩
 ·rename_i hu;exact⟨_,h,fun j i=>by simp only[jz,hu];exact i⟩
 ·rename_i hu;exact⟨_,h,fun j i=>by simp only[jz,hu];exact i⟩
 ·rename_i hu;exact⟨_,h,fun j i=>by simp only[jz,hu];exact i⟩
 ·rename_i hu;split at h
  ·rename_i l;exact⟨_,h,fun j i=>by simp only[jz,hu,l];exact i⟩
  ·exact h.elim
 ·rename_i hu;exact⟨_,h,fun j i=>by simp only[jz,hu];exact i⟩
 ·exact h.elim
end Go.AW
namespace Go.AW
variable {P:Program} {σ:AS}
def eV {X:(AV→Prop)→Prop}(hd:DA X) {K i:AV→Prop}(h:X K) (j:∀v,K v→i v):X i:=by obtain⟨v,h1,l⟩:=hd K h;exact l i (j v h1)
def Bg {t w:TypeId}{s x:AV}{K E:AV→AS→Prop}(u:∀v σ,K v σ→E v σ) (h:mK P σ t w s x K):mK P σ t w s x E:=by
 unfold mK at h⊢;split
 ·rename_i e he;simp only[he]at h;obtain⟨h1,G,F,i⟩:=h;refine⟨h1,G,F,?_⟩;split
  ·rename_i xs q;simp only[q]at i;split
   ·simp only at i;exact⟨i.1,i.2.1,fun l j=>u _ _ (i.2.2 l j)⟩
   ·simp only at i;exact⟨i.1,i.2.1,i.2.2.1,fun l j=>u _ _ (i.2.2.2 l j)⟩
   ·simp only at i;exact⟨i.1,i.2.1,i.2.2.1,i.2.2.2.1,u _ _ i.2.2.2.2⟩
   ·rename_i a b c;split at i
    ·exact(a rfl).elim
    ·exact(b _ _ _ rfl).elim
    ·exact(c _ _ _ _ rfl).elim
    ·exact i.elim
  ·rename_i q;simp only[q]at i
 ·rename_i he;simp only[he]at h
def E5 {t:TypeId}{x y:AV}{K u:AV→AS→Prop}(w:∀v σ,K v σ→u v σ) (h:gU P σ t x y K):gU P σ t x y u:=by
 unfold gU at h⊢;cases he:cr P t with
 |none=>simp only[he]at h
 |some e=>
  simp only[he]at h⊢;split at h
  ·rename_i id off len cap;cases l:σ id with
   |none=>simp only[l]at h
   |some j=>
    cases j<;>simp only[l]at h⊢;refine⟨h.1,h.2.1,?_⟩;have i:=h.2.2;cases q:cw P σ e y with
    |none=>simp only[q]at i
    |some r=>simp only[q]at i⊢;exact w _ _ i
  ·exact h.elim
def yA {b:Builtin}{ts:List TypeId}{args:List AV}{K j:AV→AS→Prop}(i:∀v σ,K v σ→j v σ) (h:bE P σ b ts args K):bE P σ b ts args j:=by
 unfold bE at h;split at h
 ·exact eV (AX _ _) h (fun v l=>i _ _ l)
 ·exact Bg i h
 ·exact E5 i h
 ·exact i _ _ h
 ·exact i _ _ h
 ·exact h.elim
def Dj {s:Fr}{K H Pn E:AV→AS→Prop}(j:∀v σ,K v σ→H v σ) (F:∀v σ,Pn v σ→E v σ) (op:Op) (h:Bt P s σ K Pn op):Bt P s σ H E op:=by
 cases op<;>simp only[Bt]at h⊢
 case move x=>exact j _ _ h
 case assign x=>exact j _ _ h
 case pick c a b=>
  split at h
  ·exact j _ _ h
  ·exact h.elim
 case alloc e=>exact⟨h.1,fun id u=>j _ _ (h.2 id u)⟩
 case box e x=>exact⟨h.1,fun id u=>j _ _ (h.2 id u)⟩
 case build t parts=>exact eV (uf _ _) h (fun v=>j v σ)
 case buildSlice t n parts=>obtain⟨v,h1,q⟩:=lU _ _ _ _ h;exact q _ _ (j _ _ h1)
 case load t a=>exact eV (xz _ _) h (fun v=>j v σ)
 case store t a x=>
  unfold um at h⊢;split at h
  ·split at h
   ·exact⟨h.1,h.2.1,h.2.2.1,h.2.2.2.1,h.2.2.2.2.1,j _ _ h.2.2.2.2.2⟩
   ·exact h.elim
  ·exact h.elim
 case nilCheck x=>exact eV (oJ _) h (fun v=>j v σ)
 case binOp op t x y T=>exact eV (AY _ _ _ _) h (fun v=>j v σ)
 case unOp op t x=>exact eV (EI _ _) h (fun v=>j v σ)
 case convert a b x=>exact eV (pY _ _ _) h (fun v=>j v σ)
 case makeInterface t x=>exact⟨h.1,j _ _ h.2⟩
 case makeFunc f first cap=>exact j _ _ h
 case makeMap t r=>exact⟨h.1,fun id u=>j _ _ (h.2 id u)⟩
 case range t x=>
  unfold ny at h⊢;split at h
  ·exact⟨h.1,fun id u=>j _ _ (h.2 id u)⟩
  ·split at h
   ·exact fun id u=>j _ _ (h id u)
   ·exact h.elim
  ·exact h.elim
 case next it str=>
  unfold zw at h⊢;split at h
  ·refine⟨h.1,?_⟩;have q:=h.2;split at q
   ·unfold Ci at q⊢;split at q
    ·exact⟨q.1,fun w=>j _ _ (q.2.1 w),fun k w G=>j _ _ (q.2.2 k w G)⟩
    ·exact q.elim
   ·exact q.elim
  ·refine⟨h.1,?_⟩;have q:=h.2;split at q
   ·rename_i b pos _;unfold F4 at q⊢;by_cases F:pos<b.size
    ·rw[if_pos F]at q⊢;exact j _ _ q
    ·rw[if_neg F]at q⊢;exact j _ _ q
   ·exact q.elim
  ·exact h.elim
 case entry it=>
  unfold uo at h⊢;split at h
  ·refine⟨h.1,?_⟩;have q:=h.2;split at q
   ·split at q
    ·exact⟨q.1,j _ _ q.2⟩
    ·exact q.elim
   ·exact q.elim
  ·exact h.elim
 case makeSlice t l c=>
  unfold j9 at h⊢;split at h
  ·obtain⟨h1,q,w,G,M,L,J,I⟩:=h;exact⟨h1,q,w,G,M,L,J,fun id u=>j _ _ (I id u)⟩
  ·exact h.elim
 case slice t x lo V mx=>exact eV (uc _ _ _ _ _) h (fun v=>j v σ)
 case fieldAddr t x f=>exact eV (nr _ _ _) h (fun v=>j v σ)
 case field t x f=>exact eV (ue _ _ _) h (fun v=>j v σ)
 case indexAddr t x i=>exact eV (nj _ _ _) h (fun v=>j v σ)
 case index t x i=>exact eV (ud _ _ _) h (fun v=>j v σ)
 case extract x i=>exact eV (pX _ _) h (fun v=>j v σ)
 case panic x=>
  split at h
  ·exact F _ _ h
  ·exact h.elim
 case call c=>
  obtain⟨callee,args,O⟩:=c;cases callee
  case builtin b=>exact yA j h
  all_goals exact h.elim
def E7 {H:AV}{args:List AV}{K I J l:AV→AS→Prop}(G:∀v σ,K v σ→J v σ) (F:∀v σ,I v σ→l v σ) (h:ag P H args σ K I):ag P H args σ J l:=by
 unfold ag at h⊢;split at h
 ·obtain⟨h1,L,R,E,w,u,q⟩:=h;exact⟨h1,L,R,E,w,fun r i j=>G _ _ (u r i j),fun r i j=>F _ _ (q r i j)⟩
 ·obtain⟨R,E,w,u,q⟩:=h;exact⟨R,E,w,fun r i j=>G _ _ (u r i j),fun r i j=>F _ _ (q r i j)⟩
 ·exact h.elim
def wh {op:Op}{s:Fr}{K q u i:AV→AS→Prop}(l:∀v σ,K v σ→u v σ) (j:∀v σ,q v σ→i v σ) (h:b8 P op s σ K q):b8 P op s σ u i:=by
 unfold b8 at h⊢;cases op
 case call c=>
  obtain⟨callee,args,w⟩:=c;cases callee
  case value f=>exact E7 l j h
  all_goals exact Dj l j _ h
 all_goals exact Dj l j _ h
def sm {ops:Array Oper}{n:Nat}{o:Oper}{s:Fr}{K E F i:AV→AS→Prop}(q:∀v σ,K v σ→F v σ) (w:∀v σ,E v σ→i v σ) (h:Gj P ops n o s σ K E):Gj P ops n o s σ F i:=by
 unfold Gj at h⊢;refine⟨h.1,?_⟩;have l:=h.2;split
 ·rename_i u;simp only[u]at l;exact wh q w l
 ·rename_i j want u;simp only[u]at l;exact uA l (wh q w) (q _ _)
def sd:List AV→Bool
 |[.ao ..]|[.ai]|[.fH ..]|[.sc _]=>true
 | _ =>false
def ou (s:Fr) (op:Op):Bool:=
 match op with
 |.move _ |.assign _ |.pick .. |.build .. |.buildSlice .. |.nilCheck _ |.binOp .. |.unOp .. |.convert .. |.makeInterface .. |.makeFunc .. |.slice ..
 |.fieldAddr .. |.field .. |.indexAddr .. |.index .. |.extract .. =>true
 |.load _ a=>match ev s a with|.iv _ =>true| _ =>false
 |.call c=>match c.callee with
  |.builtin .len=>sd (c.args.toList.map (ev s))
  |.builtin .min=>true
  |.builtin .max=>true
  | _ =>false
 | _ =>false
def ku (op:Op):Bool:=
 match op with
 |.move _ |.assign _ |.pick .. |.build .. |.buildSlice .. |.nilCheck _ |.binOp .. |.unOp .. |.convert .. |.makeInterface .. |.makeFunc .. |.slice ..
 |.fieldAddr .. |.field .. |.indexAddr .. |.index .. |.extract .. |.load .. =>true
 |.call c=>match c.callee with
  |.builtin .len=>true
  |.builtin .min=>true
  |.builtin .max=>true
  | _ =>false
 | _ =>false
def Jn {op:Op}{s:Fr}{Kv I:AV→AS→Prop}(F:ku op=true) (h:b8 P op s σ Kv I):∃v,Kv v σ∧ ∀j l:AV→AS→Prop,j v σ→b8 P op s σ j l:=by
 have lift:∀ {X:(AV→Prop)→Prop},DA X→X (fun v=>Kv v σ)→(∀(j l:AV→AS→Prop),X (fun v=>j v σ)→b8 P op s σ j l)→ ∃v,Kv v σ∧ ∀j l:AV→AS→Prop,j v σ→b8 P op s σ j l:=by intro X hd q L;obtain⟨v,h1,G⟩:=hd _ q;exact⟨v,h1,fun j l u=>L j l (G (fun v=>j v σ) u)⟩
 cases op<;>(try simp only[ku]at F)<;>first|(cases F;done)|skip
 case move x=>exact⟨_,h,fun _ _ u=>u⟩
 case assign x=>exact⟨_,h,fun _ _ u=>u⟩
 case pick c a b=>
  have w:Bt P s σ Kv I (.pick c a b):=h;simp only[Bt]at w;split at w
  ·rename_i t J;exact⟨_,w,fun j l u=>by show Bt P s σ j l (.pick c a b);simp only[Bt,J];exact u⟩
  ·exact w.elim
 case build t parts=>exact lift (uf _ _) h (fun _ _ q=>q)
 case buildSlice t n parts=>obtain⟨v,h1,G⟩:=lU _ _ _ _ h;exact⟨v,h1,fun j l u=>G σ j u⟩
 case load t a=>exact lift (xz _ _) h (fun _ _ q=>q)
 case nilCheck x=>exact lift (oJ _) h (fun _ _ q=>q)
 case binOp op t x y T=>exact lift (AY _ _ _ _) h (fun _ _ q=>q)
 case unOp op t x=>exact lift (EI _ _) h (fun _ _ q=>q)
 case convert a b x=>exact lift (pY _ _ _) h (fun _ _ q=>q)
 case makeInterface t x=>exact⟨_,h.2,fun _ _ u=>⟨h.1,u⟩⟩
 case makeFunc f first cap=>exact⟨_,h,fun _ _ u=>u⟩
 case slice t x lo V mx=>exact lift (uc _ _ _ _ _) h (fun _ _ q=>q)
 case fieldAddr t x f=>exact lift (nr _ _ _) h (fun _ _ q=>q)
 case field t x f=>exact lift (ue _ _ _) h (fun _ _ q=>q)
 case indexAddr t x i=>exact lift (nj _ _ _) h (fun _ _ q=>q)
 case index t x i=>exact lift (ud _ _ _) h (fun _ _ q=>q)
 case extract x i=>exact lift (pX _ _) h (fun _ _ q=>q)
 case call c=>
  obtain⟨callee,args,E⟩:=c;cases callee
  case builtin b=>
   have w:bE P σ b E.toList (args.toList.map (ev s)) Kv:=h;unfold bE at w;split at w
   ·rename_i t x M H;obtain⟨v,h1,G⟩:=AX _ _ _ w;refine⟨v,h1,fun j l u=> ?_⟩;show bE P σ .len E.toList (args.toList.map (ev s)) j;rw[M,H];exact G (fun v=>j v σ) u
   ·simp at F
   ·simp at F
   ·rename_i k a k' O H;refine⟨_,w,fun j l u=> ?_⟩;show bE P σ .min E.toList (args.toList.map (ev s)) j;rw[H];exact u
   ·rename_i k a k' O H;refine⟨_,w,fun j l u=> ?_⟩;show bE P σ .max E.toList (args.toList.map (ev s)) j;rw[H];exact u
   ·exact w.elim
  all_goals simp at F
def B4 {op:Op}{s:Fr}{Kv L:AV→AS→Prop}(H:ou s op=true) (h:b8 P op s σ Kv L):∃v,Kv v σ∧ ∀(l:AS) (j q:AV→AS→Prop),j v l→b8 P op s l j q:=by
 have lift:∀ {X:(AV→Prop)→Prop},DA X→X (fun v=>Kv v σ)→(∀(l:AS) (j q:AV→AS→Prop),X (fun v=>j v l)→b8 P op s l j q)→ ∃v,Kv v σ∧ ∀(l:AS) (j q:AV→AS→Prop),j v l→b8 P op s l j q:=by intro X hd u T;obtain⟨v,h1,I⟩:=hd _ u;exact⟨v,h1,fun l j q w=>T l j q (I (fun v=>j v l) w)⟩
 cases op<;>(try simp only[ou]at H)<;>first|(cases H;done)|skip
 case move x=>exact⟨_,h,fun _ _ _ w=>w⟩
 case assign x=>exact⟨_,h,fun _ _ _ w=>w⟩
 case pick c a b=>
  have E:Bt P s σ Kv L (.pick c a b):=h;simp only[Bt]at E;split at E
  ·rename_i t O;exact⟨_,E,fun l j q w=>by show Bt P s l j q (.pick c a b);simp only[Bt,O];exact w⟩
  ·exact E.elim
 case build t parts=>exact lift (uf _ _) h (fun _ _ _ u=>u)
 case buildSlice t n parts=>obtain⟨v,h1,I⟩:=lU _ _ _ _ h;exact⟨v,h1,fun l j q w=>I l j w⟩
 case load t a=>
  have E:eX P σ t (ev s a) (fun v=>Kv v σ):=h;cases u:ev s a<;>(try simp only[u]at H)<;>first|(cases H;done)|skip
  rename_i cells;have ind:∀(l:AS) (K:AV→Prop),eX P σ t (.iv cells) K→eX P l t (.iv cells) K:=by intro l K J;unfold eX at J⊢;cases hl:fX P t<;>simp only[hl]at J⊢ <;>exact J
  rw[u]at E;obtain⟨v,h1,I⟩:=xz _ _ _ E;exact⟨v,h1,fun l j q w=>by show eX P l t (ev s a) (fun v=>j v l);rw[u];exact ind l _ (I (fun v=>j v l) w)⟩
 case nilCheck x=>exact lift (oJ _) h (fun _ _ _ u=>u)
 case binOp op t x y yt=>exact lift (AY _ _ _ _) h (fun _ _ _ u=>u)
 case unOp op t x=>exact lift (EI _ _) h (fun _ _ _ u=>u)
 case convert a b x=>exact lift (pY _ _ _) h (fun _ _ _ u=>u)
 case makeInterface t x=>exact⟨_,h.2,fun _ _ _ w=>⟨h.1,w⟩⟩
 case makeFunc f first cap=>exact⟨_,h,fun _ _ _ w=>w⟩
 case slice t x lo hi mx=>exact lift (uc _ _ _ _ _) h (fun _ _ _ u=>u)
 case fieldAddr t x f=>exact lift (nr _ _ _) h (fun _ _ _ u=>u)
 case field t x f=>exact lift (ue _ _ _) h (fun _ _ _ u=>u)
 case indexAddr t x i=>exact lift (nj _ _ _) h (fun _ _ _ u=>u)
 case index t x i=>exact lift (ud _ _ _) h (fun _ _ _ u=>u)
 case extract x i=>exact lift (pX _ _) h (fun _ _ _ u=>u)
 case call c=>
  obtain⟨callee,args,G⟩:=c;cases callee
  case builtin b=>
   have E:bE P σ b G.toList (args.toList.map (ev s)) Kv:=h;unfold bE at E;split at E
   ·rename_i t x Y F;obtain⟨o,rfl⟩:∃o,args= #[o]:=by
     cases hl:args.toList with
     |nil=>rw[hl]at F;simp at F
     |cons o r=>rw[hl]at F;simp at F;obtain⟨_,rfl⟩:=F;exact⟨o,D9 hl⟩
    have V:ev s o=x:=by simpa using F
    have M:sd [x]=true:=by have:sd ((#[o]:Array Operand).toList.map (ev s))=true:=H;simpa[V]using this
    have ind:∀(l:AS) (K:AV→Prop),jz P σ t x K→jz P l t x K:=by intro l K J;unfold jz at J⊢;split at J<;>simp_all [sd]
    obtain⟨v,h1,I⟩:=AX _ _ _ E;refine⟨v,h1,fun l j q w=> ?_⟩;show bE P l .len G.toList ((#[o]:Array Operand).toList.map (ev s)) j;rw[Y,F];exact ind l _ (I (fun v=>j v l) w)
   ·simp at H
   ·simp at H
   ·rename_i k a k' b' F;refine⟨_,E,fun l j q w=> ?_⟩;show bE P l .min G.toList (args.toList.map (ev s)) j;rw[F];exact w
   ·rename_i k a k' b' F;refine⟨_,E,fun l j q w=> ?_⟩;show bE P l .max G.toList (args.toList.map (ev s)) j;rw[F];exact w
   ·exact E.elim
  all_goals simp at H
def Nh {q:AS}{t:TypeId}{x:AV}{K:AV→Prop}(hle:AS.le σ q) (h:eX P σ t x K):∃v,K v∧ ∀j:AV→Prop,j v→eX P q t x j:=by
 unfold eX at h;split at h
 ·rename_i hl;split at h
  ·rename_i l;exact⟨_,h.2,fun j i=>by simp only[eX,hl,hle _ _ l];exact⟨h.1,i⟩⟩
  ·exact h.elim
 ·rename_i hl;split at h
  ·rename_i l;exact⟨_,h.2.2,fun j i=>by simp only[eX,hl,hle _ _ l];exact⟨h.1,h.2.1,i⟩⟩
  ·exact h.elim
 ·rename_i hl;exact⟨_,h.2,fun j i=>by simp only[eX,hl];exact⟨h.1,i⟩⟩
 ·rename_i hl;exact⟨_,h.2.2,fun j i=>by simp only[eX,hl];exact⟨h.1,h.2.1,i⟩⟩
 ·exact h.elim
def Qf {l:AS}{t:TypeId}{x:AV}{K:AV→Prop}(hle:AS.le σ l) (h:jz P σ t x K):∃v,K v∧ ∀i:AV→Prop,i v→jz P l t x i:=by
 unfold jz at h;split at h;all_goals first
  |exact h.elim
  |(rename_i hu;exact⟨_,h,fun i j=>by simp only[jz,hu];exact j⟩)
  |(rename_i hu;split at h
    ·rename_i q;exact⟨_,h,fun i j=>by simp only[jz,hu,hle _ _ q];exact j⟩
    ·exact h.elim)
def My {op:Op}{s:Fr}{Kv L:AV→AS→Prop}(q:ku op=true) (h:b8 P op s σ Kv L):∃v,Kv v σ∧ ∀j,AS.le σ j→ ∀i l:AV→AS→Prop,i v j→b8 P op s j i l:=by
 by_cases E:ou s op=true
 ·obtain⟨v,h1,G⟩:=B4 E h;exact⟨v,h1,fun j _ i l F=>G j i l F⟩
 ·obtain⟨v,h1,G⟩:=Jn q h;refine⟨v,h1,fun j hle i l F=> ?_⟩;cases op<;>(try simp only[ku]at q)<;>(try simp[ou]at E)<;>first|(cases q;done)|skip
  case load t a=>obtain⟨u,g1,g2⟩:=Nh (K:=fun x=>x=v) hle (G (fun x _ =>x=v) (fun _ _ =>True) rfl);exact g2 (fun x=>i x j) (g1 ▸ F)
  case call c=>
   obtain⟨callee,args,w⟩:=c;cases callee
   case builtin b=>
    have H:bE P σ b w.toList (args.toList.map (ev s)) (fun x _ =>x=v):=G (fun x _ =>x=v) (fun _ _ =>True) rfl;unfold bE at H;split at H
    ·rename_i t x J I;obtain⟨u,g1,g2⟩:=Qf (K:=fun x=>x=v) hle H;show bE P j .len w.toList (args.toList.map (ev s)) i;rw[J,I];exact g2 (fun x=>i x j) (g1 ▸ F)
    ·simp at q
    ·simp at q
    ·simp at E
    ·simp at E
    ·exact H.elim
   all_goals simp at q
end Go.AW
namespace Go.AW
variable {P:Program}
inductive bW where
 |D
 |S (i:Nat) (t:bW)
 |R (i:Nat) (t:bW)
 |A (i:Nat) (t r:bW)
 |W (i:Nat) (t r:bW)
 |U (i:Nat) (t:bW)
 |Z
def bW.idxs:bW→List Nat
 |.A i _ r=>i::r.idxs
 |.W i _ r=>i::r.idxs
 | _ => []
def dJ (ops:Array Oper) (i:Nat):Nat→Array Bool→Array Bool
 |0,m=>m
 |f+1,m=>dJ ops i f ((List.range ops.size).foldl (fun m j=>if j !=i&&(match ops[j]? with|some o=>o.after.all fun e=> !Region.binds .any e||m.getD e.on false|none=>false)then m.setIfInBounds j true else m) m)
def yP (ops:Array Oper) (i:Nat) (h:Array Bool):Bool:=
 let M:=dJ ops i 2 h
 (List.range ops.size).all (fun j=> !h.getD j false||M.getD j false)&& !M.getD i false&&h.size==ops.size&&M.size==ops.size&&
 (List.range ops.size).all fun j=>match ops[j]? with
  |some o=>(j==i||M.getD j false||o.after.any fun e=>Region.binds .any e&& !M.getD e.on false)&&(!M.getD j false||h.getD j true||ku o.op)
  |none=>true
def dh (ops:Array Oper) (ro:Bool):Bool→Array Bool→bW→Bool
 |true,h,.D=>(Region.ready .any ops h).isEmpty
 |true,h,.S i t=>(Region.ready .any ops h).contains i&&Region.free .any ops h i&&(!ro||((ops[i]?).map (ku ·.op)).getD false)&&dh ops ro true (h.setIfInBounds i true) t
 |true,h,.R i t=>(Region.ready .any ops h).contains i&&Region.free .any ops h i&&((ops[i]?).map (ku ·.op)).getD false&&yP ops i h&&dh ops ro true (h.setIfInBounds i true) t
 |true,h,.U i t=>(Region.ready .any ops h).contains i&&Region.free .any ops h i&& !ro&&dh ops ro true (h.setIfInBounds i true) t
 |top,h,.A i t r=>(!top||(Region.ready .any ops h).all fun j=>(bW.A i t r).idxs.contains j)&&(!top|| !(Region.ready .any ops h).isEmpty)&&dh ops ro true (h.setIfInBounds i true) t&&dh ops ro false h r
 |top,h,.W i t r=>(!top||(Region.ready .any ops h).all fun j=>(bW.W i t r).idxs.contains j)&&(!top|| !(Region.ready .any ops h).isEmpty)&&dh ops ro true (h.setIfInBounds i true) t&&dh ops ro false h r
 |false,_,.Z=>true
 | _,_,_ =>false
def aD (P:Program) (i:AV) (args:List AV) (K:AV→Prop):Prop:= ∃v,(∀h (Kv j:AV→AS→Prop),Kv v h→ag P i args h Kv j)∧K v
def ti (P:Program) (n:Nat) (ops:Array Oper) (o:Oper) (s:Fr) (K:AV→Prop):Prop:=
 (match o.dst with|none=>True|some d=>d<n)∧
 match o.op,o.guard with
 |.call ⟨.value f,args,_⟩,none=>aD P (ev s f) (args.toList.map (ev s)) K
 |.call ⟨.value f,args,_⟩,some (j,want)=>iB (jk ops s j) want (aD P (ev s f) (args.toList.map (ev s)) K) (K kT)
 | _,_ =>False
def J1 (K:Fr→AS→Prop) (s:Fr) (d:Option Nat) (σ:AS):AV→Prop:=fun v=>K (s.put d v) σ
def Ki (o:Oper) (s:Fr):Fr:=fun t=>if t∈({ o with guard:=none } :Oper).looksAt #[]then s t else .any
def Qe (o:Oper) (s:Fr) {G:Gh}{v:Value}(x:Operand) (h:aV P G (ev s x) v):aV P G (ev (Ki o s) x) v:=by
 cases x with
 |tmp t=>
  show aV P G (Ki o s t) v;unfold Ki;split
  ·exact h
  ·exact .any _
 | _ =>exact h
def EF (o:Oper) (s:Fr) (x:Operand) (h:x∈o.op.operands):ev (Ki o s) x=ev s x:=by
 cases x with
 |tmp t=>show Ki o s t=s t;unfold Ki;refine if_pos ?_;unfold Oper.looksAt;refine mem_append.2 (.inl ?_);rw[mem_filterMap];exact⟨.tmp t,by simpa using h,rfl⟩
 | _ =>rfl
def Xv (P:Program) (o:Oper) (s:Fr) (σ:AS) (Kv h:AV→AS→Prop):Prop:=
 ∀(G:Gh) (ρ:Operand→Value) (w:World),Inv P G σ w→(∀x,aV P G (ev (Ki o s) x) (ρ x))→Out P G Kv h ((execOp ρ o).run P w)
def zA (P:Program) (n:Nat) (o:Oper) (s:Fr) (σ:AS) (Kv i:AV→AS→Prop):Prop:=
 (match o.dst with|none=>True|some d=>d<n)∧o.guard=none∧Xv P o s σ (fun v h=>(ku o.op=true→AS.le σ h)∧Kv v h) i
variable (P) in
def bu (n:Nat) (ops:Array Oper) (ro:Bool) (Q:AQ):bW→Fr→AS→Prop
 |.D,s,σ=>Q .normal s σ
 |.S i t,s,σ=>match ops[i]? with
  |some o=>(ro=true∨ou s o.op=true)∧eL P n ops o s σ (bu n ops ro Q t) Q
  |none=>False
 |.R i t,s,σ=>match ops[i]? with
  |some o=>eL P n ops o s σ (bu n ops ro Q t) Q
  |none=>False
 |.A i t r,s,σ=>(match ops[i]? with
  |some o=>eL P n ops o s σ (bu n ops ro Q t) Q
  |none=>False)∧bu n ops ro Q r s σ
 |.W i t r,s,σ=>(match ops[i]? with
  |some o=>zA P n o s σ (fun v h=>bu n ops ro Q t (s.put o.dst v) h) (fun p h=>Q (.panic p) s h)
  |none=>False)∧bu n ops ro Q r s σ
 |.U i t,s,σ=>match ops[i]? with
  |some o=>ti P n ops o s (J1 (bu n ops ro Q t) s o.dst σ)
  |none=>False
 |.Z,_,_ =>True
def Out.mono {G:Gh}{K u Pn l:AV→AS→Prop}{r:Result Next}(q:∀v σ,K v σ→u v σ) (w:∀v σ,Pn v σ→l v σ) (h:Out P G K Pn r):Out P G u l r:=by
 unfold Out at h⊢;split at h
 ·obtain⟨G',i,j,a,b,c,d⟩:=h;exact⟨G',i,j,a,b,c,q _ _ d⟩
 ·obtain⟨G',i,j,a,b,c,d⟩:=h;exact⟨G',i,j,a,b,c,q _ _ d⟩
 ·obtain⟨G',i,j,a,b,c,d⟩:=h;exact⟨G',i,j,a,b,c,w _ _ d⟩
 ·exact h.elim
def xh (P:Program) (ops:Array Oper) (n:Nat) (o:Oper) (s:Fr) (σ:AS) (Kv h:AV→AS→Prop):Prop:=Gj P ops n o s σ Kv h∨zA P n o s σ Kv h
def zc {ops:Array Oper}{n:Nat}{o:Oper}{s:Fr}{σ:AS}{K q u i:AV→AS→Prop}(l:∀v σ,K v σ→u v σ) (j:∀v σ,q v σ→i v σ) (h:xh P ops n o s σ K q):xh P ops n o s σ u i:=
 h.imp (sm l j) fun⟨a,b,d⟩=>⟨a,b,fun G ρ w F E=>(d G ρ w F E).mono (fun v σ h=>⟨h.1,l v σ h.2⟩) j⟩
def Ey {ops:Array Oper}{n:Nat}{o:Oper}{s i:Fr}{σ:AS}{Kv j:AV→AS→Prop}(h:∀t∈o.looksAt ops,s t=i t):xh P ops n o s σ Kv j=xh P ops n o i σ Kv j:=by
 have hl:Ki o s=Ki o i:=by
  funext t;unfold Ki;split
  ·rename_i ht;refine h t ?_;unfold Oper.looksAt at ht⊢;rcases mem_append.1 ht with ht|ht
   ·exact mem_append.2 (.inl ht)
   ·simp at ht
  ·rfl
 have l:zA P n o s σ Kv j=zA P n o i σ Kv j:=by unfold zA Xv;rw[hl]
 unfold xh;rw[zb h,l]
def sJ (P:Program) (n:Nat) (ops:Array Oper) (Q:AQ):Nat→Array Bool→Fr→AS→Prop
 |0,h,s,σ=>Region.ready .any ops h= []∧Q .normal s σ
 |f+1,h,s,σ=>(Region.ready .any ops h= []→Q .normal s σ)∧ ∀i∈Region.ready .any ops h,∃o,ops[i]? =some o∧xh P ops n o s σ (fun v j=>sJ P n ops Q f (h.setIfInBounds i true) (s.put o.dst v) j) (fun p j=>Q (.panic p) s j)
def Bl (P:Program) (n:Nat) (ops:Array Oper) (ro:Bool) (o:Oper) (s:Fr) (σ:AS) (v:AV):Prop:=
 ∀h,(ro=true→AS.le σ h)→ ∀Kv i:AV→AS→Prop,Kv v h→Gj P ops n o s h Kv i
def s7 {n:Nat}{ops:Array Oper}{ro:Bool}{o:Oper}{s:Fr}{σ:AS}{Kv G:AV→AS→Prop}(J:(ro=true∧ku o.op=true)∨ou s o.op=true) (h:Gj P ops n o s σ Kv G):
 ∃v,Bl P n ops ro o s σ v∧Kv v σ:=by
 have key:∀(Kv G:AV→AS→Prop),b8 P o.op s σ Kv G→ ∃v,Kv v σ∧ ∀q,(ro=true→AS.le σ q)→ ∀i l:AV→AS→Prop,i v q→b8 P o.op s q i l:=by
  intro Kv G h;rcases J with⟨h1,I⟩|I
  ·obtain⟨v,k1,w⟩:=My I h;exact⟨v,k1,fun q E i l u=>w q (E h1) i l u⟩
  ·obtain⟨v,k1,w⟩:=B4 I h;exact⟨v,k1,fun q _ i l u=>w q i l u⟩
 unfold Gj at h;obtain⟨hd,h⟩:=h;cases F:o.guard with
 |none=>simp only[F]at h;obtain⟨v,k1,w⟩:=key _ _ h;exact⟨v,fun q E i l u=>⟨hd,by simp only[F];exact w q E i l u⟩,k1⟩
 |some p=>
  obtain⟨j,want⟩:=p;simp only[F]at h;rcases h with⟨H,h⟩|⟨H,h⟩
  ·obtain⟨v,k1,w⟩:=key _ _ h;exact⟨v,fun q E i l u=>⟨hd,by simp only[F];exact .inl ⟨H,w q E i l u⟩⟩,k1⟩
  ·exact⟨kT,fun q E i l u=>⟨hd,by simp only[F];exact .inr ⟨H,u⟩⟩,h⟩
def BS {n:Nat}{ops:Array Oper}{ro:Bool}{o:Oper}{s:Fr}{σ:AS}{K:AV→Prop}(h:ti P n ops o s K):∃v,Bl P n ops ro o s σ v∧K v:=by
 obtain⟨dst,op,ty,pos,af,guard⟩:=o;unfold ti at h;obtain⟨hd,h⟩:=h;simp only at h hd;split at h
 ·obtain⟨v,h1,j⟩:=h;exact⟨v,fun l _ Kv q i=>⟨hd,h1 l Kv q i⟩,j⟩
 ·rcases h with⟨u,v,h1,j⟩|⟨u,j⟩
  ·exact⟨v,fun l _ Kv q i=>⟨hd,.inl ⟨u,h1 l Kv q i⟩⟩,j⟩
  ·exact⟨kT,fun l _ Kv q i=>⟨hd,.inr ⟨u,i⟩⟩,j⟩
 ·exact h.elim
def KG {n:Nat}{ops:Array Oper}{o:Oper}{s:Fr}{σ:AS}{Kv j:AV→AS→Prop}(l:ku o.op=true) (h:Gj P ops n o s σ Kv j):Gj P ops n o s σ (fun v i=>i=σ∧Kv v i) j:=by obtain⟨v,h1,q⟩:=s7 (ro:=true) (.inl ⟨rfl,l⟩) h;exact h1 σ (fun _ =>AS.le_refl _) _ _ ⟨rfl,q⟩
def put_comm (s:Fr) {x y:Option Nat}(v u:AV) (h:∀d,x=some d→y≠some d):(s.put x v).put y u=(s.put y u).put x v:=by
 cases x with
 |none=>rfl
 |some d=>
  cases y with
  |none=>rfl
  |some e=>have j:d≠e:=fun he=>h d rfl (he ▸ rfl);funext i;simp only[Fr.put];by_cases h1:i=d<;>by_cases l:i=e<;>simp[h1,l]<;>omega
def yR (s:Fr) (x:Option Nat) (v:AV) (l:List Nat) (h:∀d,x=some d→d ∉ l):∀t∈l,s.put x v t=s t:=by
 intro t ht;cases x with
 |none=>rfl
 |some d=>have:t≠d:=fun e=>h d rfl (e ▸ ht);simp[Fr.put,this]
def qg {n i:Nat}{ops:Array Oper}{ro:Bool}{V:Oper}{v:AV}{Q:AQ}(hi:ops[i]? =some V) (hQ:∀p s v σ,Q (.panic p) (s.put V.dst v) σ→Q (.panic p) s σ)
 (M:Nat→Bool) (cc:M i=false) (b5:∀j E,ops[j]? =some E→j≠i→(∀e∈E.after,Region.binds .any e=true→M e.on=true)→M j=true):
 ∀(f:Nat) (l:Array Bool) (s:Fr) (σ:AS),
  (∀j,l.getD j false=true→M j=true)→(ro=true→ ∀j E,ops[j]? =some E→M j=true→l.getD j true=false→ku E.op=true)→
  (∀j E,ops[j]? =some E→j≠i→l.getD j true=false→(∀e∈E.after,Region.binds .any e=true→e.on≠i)→V.apart ops E=true)→
  i∈Region.ready .any ops l→Bl P n ops ro V s σ v→
  sJ P n ops Q f (l.setIfInBounds i true) (s.put V.dst v) σ→sJ P n ops Q (f+1) l s σ:=by
 intro f;induction f with
 |zero=>
  intro l s σ a0 ac L hr hy H;refine⟨fun h=>(by rw[h]at hr;cases hr),fun j hj=> ?_⟩;by_cases F:j=i
  ·subst F;exact⟨V,hi,.inl (hy σ (fun _ =>AS.le_refl _) _ _ H)⟩
  ·have:=ready_mono hj F;rw[H.1]at this;cases this
 |succ f ih=>
  intro l s σ a0 ac L hr hy H;refine⟨fun h=>(by rw[h]at hr;cases hr),fun j hj=> ?_⟩;by_cases F:j=i
  ·subst F;exact⟨V,hi,.inl (hy σ (fun _ =>AS.le_refl _) _ _ H)⟩
  ·obtain⟨E,T,h1⟩:=H.2 j (ready_mono hj F);refine⟨E,T,?_⟩;obtain⟨I,ca,al,am⟩:=mem_ready.1 hj;rw[T]at al;obtain rfl:=Option.some.inj al;have Y:=(mem_ready.1 hr).1;have a6:∀e∈E.after,Region.binds .any e=true→e.on≠i:=by
    intro e he hb heq;have:=am e he hb;rw[heq]at this;rcases Nat.lt_or_ge i l.size with h'|h'
    ·simp[h']at Y this;rw[Y]at this;cases this
    ·simp[Array.getElem?_eq_none h']at Y
   have av:M j=true:=b5 j E T F fun e he hb=>a0 _ (by have:=am e he hb;simpa[Array.getD_eq_getD_getElem?]using this);obtain⟨a1,a2,a3⟩:=Oper.apart_spec (L j E T F I a6);rw[Ey (yR s V.dst v (E.looksAt ops) a1)]at h1;have ab:∀k ok,ops[k]? =some ok→k≠i→(l.setIfInBounds j true).getD k true=false→
    (∀e∈ok.after,Region.binds .any e=true→e.on≠i)→V.apart ops ok=true:=fun k ok hk b1 X b0=>by
    refine L k ok hk b1 ?_ b0;by_cases J:j=k
    ·subst J;exact I
    ·rw[getD_set_ne true J]at X;exact X
   have a5:∀u q,(ro=true→AS.le σ q)→Bl P n ops ro V (s.put E.dst u) q v:=by intro u q hσ bb bc Kv Kp hk;rw[zb (yR s E.dst u (V.looksAt ops) a3)];exact hy bb (fun h=>AS.le_trans (hσ h) (bc h)) Kv Kp hk
   have fin:∀u q,(ro=true→AS.le σ q)→sJ P n ops Q f ((l.setIfInBounds i true).setIfInBounds j true) ((s.put V.dst v).put E.dst u) q→sJ P n ops Q (f+1) (l.setIfInBounds j true) (s.put E.dst u) q:=by
    intro u q hσ h3;refine ih (l.setIfInBounds j true) (s.put E.dst u) q (fun k hk=> ?_) (fun bf k ok bv b4 X=>ac bf k ok bv b4 ?_) ab (ready_mono hr (Ne.symm F)) (a5 u q hσ) ?_
    ·by_cases J:j=k
     ·subst J;exact av
     ·rw[getD_set_ne false J]at hk;exact a0 k hk
    ·by_cases J:j=k
     ·subst J;exact I
     ·rw[getD_set_ne true J]at X;exact X
    rw[Array.setIfInBounds_comm _ _ F,←put_comm s v u a2];exact h3
   cases ap:ro with
   |true=>
    rcases h1 with h1|h1
    ·have h4:=KG (ac ap j E T av I) h1;exact .inl (sm (fun u q (O:q=σ∧ _)=>fin u q (fun _ =>by rw[O.1];exact AS.le_refl _) O.2) (fun p q O=>hQ p _ _ q O) h4)
    ·have h6:=ac ap j E T av I;obtain⟨d1,d2,d3⟩:=h1;exact .inr ⟨d1,d2,fun G ρ w hi bs=>(d3 G ρ w hi bs).mono (fun u q O=>⟨O.1,fin u q (fun _ =>O.1 h6) O.2⟩) (fun p q O=>hQ p _ _ q O)⟩
   |false=>exact zc (fun u q O=>fin u q (fun h=>by rw[ap]at h;cases h) O) (fun p q O=>hQ p _ _ q O) h1
def bW.depth:bW→Nat
 |.D=>0
 |.S _ t=>t.depth+1
 |.R _ t=>t.depth+1
 |.A _ t r=>max (t.depth+1) r.depth
 |.W _ t r=>max (t.depth+1) r.depth
 |.U _ t=>t.depth+1
 |.Z=>0
def Bh {n:Nat}{ops:Array Oper}{ro:Bool}{Q:AQ}(hQ:∀(j:Nat) (o:Oper),ops[j]? =some o→ ∀p s v σ,Q (.panic p) (s.put o.dst v) σ→Q (.panic p) s σ) (am:ro=true→ ∀(j:Nat) (o:Oper),ops[j]? =some o→ku o.op=true):
 ∀(t:bW),(∀(l:Array Bool) (s:Fr) (σ:AS) (f:Nat),dh ops ro true l t=true→t.depth≤f→bu P n ops ro Q t s σ→sJ P n ops Q f l s σ)∧
  (∀(l:Array Bool) (s:Fr) (σ:AS) (f:Nat),dh ops ro false l t=true→t.depth≤f+1→bu P n ops ro Q t s σ→ ∀i∈t.idxs,∃o,ops[i]? =some o∧xh P ops n o s σ (fun v G=>sJ P n ops Q f (l.setIfInBounds i true) (s.put o.dst v) G) (fun p G=>Q (.panic p) s G)):=by
 have ac:∀(i:Nat) (t r:bW) (l:Array Bool) (s:Fr) (σ:AS) (f:Nat),(∀(l:Array Bool) (s:Fr) (σ:AS) (f:Nat),dh ops ro true l t=true→t.depth≤f→bu P n ops ro Q t s σ→sJ P n ops Q f l s σ)→
  (∀(l:Array Bool) (s:Fr) (σ:AS) (f:Nat),dh ops ro false l r=true→r.depth≤f+1→bu P n ops ro Q r s σ→ ∀i∈r.idxs,∃o,ops[i]? =some o∧xh P ops n o s σ (fun v G=>sJ P n ops Q f (l.setIfInBounds i true) (s.put o.dst v) G) (fun p G=>Q (.panic p) s G))→
  dh ops ro true (l.setIfInBounds i true) t=true→dh ops ro false l r=true→(bW.A i t r).depth≤f+1→bu P n ops ro Q (.A i t r) s σ→
  ∀j∈(bW.A i t r).idxs,∃o,ops[j]? =some o∧xh P ops n o s σ (fun v G=>sJ P n ops Q f (l.setIfInBounds j true) (s.put o.dst v) G) (fun p G=>Q (.panic p) s G):=by
  intro i t r l s σ f I J h1 H q L j u;simp only[bW.depth]at q;simp only[bu]at L;simp only[bW.idxs,mem_cons]at u;rcases u with rfl|u
  ·cases w:ops[j]? with
   |none=>simp only[w]at L;exact L.1.elim
   |some o=>simp only[w]at L;refine⟨o,rfl,?_⟩;have:=L.1;rw[lS]at this;exact .inl (sm (fun v G h5=>I _ _ _ f h1 (by omega) h5) (fun _ _ h=>h) this)
  ·exact J l s σ f H (by omega) L.2 j u
 have ab:∀(i:Nat) (t r:bW) (l:Array Bool) (s:Fr) (σ:AS) (f:Nat),(∀(l:Array Bool) (s:Fr) (σ:AS) (f:Nat),dh ops ro true l t=true→t.depth≤f→bu P n ops ro Q t s σ→sJ P n ops Q f l s σ)→
  (∀(l:Array Bool) (s:Fr) (σ:AS) (f:Nat),dh ops ro false l r=true→r.depth≤f+1→bu P n ops ro Q r s σ→ ∀i∈r.idxs,∃o,ops[i]? =some o∧xh P ops n o s σ (fun v G=>sJ P n ops Q f (l.setIfInBounds i true) (s.put o.dst v) G) (fun p G=>Q (.panic p) s G))→
  dh ops ro true (l.setIfInBounds i true) t=true→dh ops ro false l r=true→(bW.W i t r).depth≤f+1→bu P n ops ro Q (.W i t r) s σ→
  ∀j∈(bW.W i t r).idxs,∃o,ops[j]? =some o∧xh P ops n o s σ (fun v G=>sJ P n ops Q f (l.setIfInBounds j true) (s.put o.dst v) G) (fun p G=>Q (.panic p) s G):=by
  intro i t r l s σ f I J h1 H q L j u;simp only[bW.depth]at q;simp only[bu]at L;simp only[bW.idxs,mem_cons]at u;rcases u with rfl|u
  ·cases w:ops[j]? with
   |none=>simp only[w]at L;exact L.1.elim
   |some o=>simp only[w]at L;exact⟨o,rfl,zc (fun v G h5=>I _ _ _ f h1 (by omega) h5) (fun _ _ h=>h) (.inr L.1)⟩
  ·exact J l s σ f H (by omega) L.2 j u
 intro t;induction t with
 |D=>
  constructor
  ·intro l s σ f h1 H q;have a2:Region.ready .any ops l= []:=by simpa[dh]using h1
   cases f with
   |zero=>exact⟨a2,q⟩
   |succ f=>exact⟨fun _ =>q,fun i hi=>by rw[a2]at hi;cases hi⟩
  ·intro l s σ f h1;simp[dh]at h1
 |Z=>
  constructor
  ·intro l s σ f h1;simp[dh]at h1
  ·intro l s σ f _ _ _ i hi;simp[bW.idxs]at hi
 |S i t ih=>
  constructor
  ·intro l s σ f h1 H q;simp only[dh,Bool.and_eq_true]at h1;obtain⟨⟨⟨Y,T⟩,q3⟩,X⟩:=h1;simp only[bu]at q;simp only[bW.depth]at H;obtain⟨f,rfl⟩:∃g,f=g+1:=⟨f-1,by omega⟩;cases w:ops[i]? with
   |none=>simp only[w]at q
   |some o=>
    simp only[w]at q;obtain⟨q,L⟩:=q;rw[lS]at L;have a8:(ro=true∧ku o.op=true)∨ou s o.op=true:=by
     rcases q with q|q
     ·exact .inl ⟨q,am q i o w⟩
     ·exact .inr q
    obtain⟨v,r1,r2⟩:=s7 a8 L;have M:i∈Region.ready .any ops l:=by simpa using Y
    have E:=(mem_ready.1 M).1;exact qg w (hQ i o w) (fun j=>decide (j≠i)) (by simp) (fun j _ _ F _ =>by simpa using F) f l s σ (fun j u=>by
     by_cases F:j=i
     ·subst F;rw[Array.getD_eq_getD_getElem?]at u E;cases hg:l[j]? <;>simp[hg]at u E;rw[u]at E;cases E
     ·simpa using F) (fun hr j oj O _ _ =>am hr j oj O) (Region.free_spec w T) M r1 (ih.1 _ _ _ f X (by omega) r2)
  ·intro l s σ f h1;simp[dh]at h1
 |R i t ih=>
  constructor
  ·intro l s σ f h1 H q;simp only[dh,Bool.and_eq_true]at h1;obtain⟨⟨⟨⟨Y,T⟩,q3⟩,q5⟩,X⟩:=h1;simp only[bu]at q;simp only[bW.depth]at H;obtain⟨f,rfl⟩:∃g,f=g+1:=⟨f-1,by omega⟩;cases w:ops[i]? with
   |none=>simp only[w]at q
   |some o=>
    simp only[w]at q;rw[lS]at q;have a5:ku o.op=true:=by simpa[w]using q3
    obtain⟨v,r1,r2⟩:=s7 (ro:=true) (.inl ⟨rfl,a5⟩) q;have M:i∈Region.ready .any ops l:=by simpa using Y
    simp only[yP,Bool.and_eq_true,all_eq_true,mem_range,Bool.or_eq_true,Bool.not_eq_true',beq_iff_eq]at q5;obtain⟨⟨⟨⟨m1,m2⟩,m3⟩,m4⟩,m5⟩:=q5;refine qg w (hQ i o w) (fun j=>(dJ ops i 2 l).getD j false) m2 (fun j oj u F a3=> ?_) f l s σ (fun j u=> ?_) (fun _ j oj O bb E=> ?_) (Region.free_spec w T) M r1 (ih.1 _ _ _ f X (by omega) r2)
    ·have V:j<ops.size:=(Array.getElem?_eq_some_iff.1 u).1;have:=m5 j V;simp only[u,Bool.and_eq_true,Bool.or_eq_true]at this;rcases this.1 with(h|h)|h
     ·exact absurd (by simpa using h) F
     ·exact h
     ·rw[Array.any_eq_true']at h;obtain⟨e,he,h⟩:=h;simp only[Bool.and_eq_true,Bool.not_eq_true']at h;rw[a3 e he h.1]at h;cases h.2
    ·have V:j<ops.size:=by
      rcases Nat.lt_or_ge j ops.size with h|h
      ·exact h
      ·rw[Array.getD_eq_getD_getElem?,Array.getElem?_eq_none (by omega)]at u;cases u
     rcases m1 j V with h|h
     ·rw[u]at h;cases h
     ·exact h
    ·have V:j<ops.size:=(Array.getElem?_eq_some_iff.1 O).1;have:=m5 j V;simp only[O,Bool.and_eq_true,Bool.or_eq_true,Bool.not_eq_true']at this;rcases this.2 with(h|h)|h
     ·rw[bb]at h;cases h
     ·rw[E]at h;cases h
     ·exact h
  ·intro l s σ f h1;simp[dh]at h1
 |U i t ih=>
  constructor
  ·intro l s σ f h1 H q;simp only[dh,Bool.and_eq_true]at h1;obtain⟨⟨⟨Y,T⟩,q3⟩,X⟩:=h1;simp only[bu]at q;simp only[bW.depth]at H;obtain⟨f,rfl⟩:∃g,f=g+1:=⟨f-1,by omega⟩;cases w:ops[i]? with
   |none=>simp only[w]at q
   |some o=>
    simp only[w]at q;obtain⟨v,r1,r2⟩:=BS (ro:=ro) (σ:=σ) q;have M:i∈Region.ready .any ops l:=by simpa using Y
    have E:=(mem_ready.1 M).1;exact qg w (hQ i o w) (fun j=>decide (j≠i)) (by simp) (fun j _ _ F _ =>by simpa using F) f l s σ (fun j u=>by
     by_cases F:j=i
     ·subst F;rw[Array.getD_eq_getD_getElem?]at u E;cases hg:l[j]? <;>simp[hg]at u E;rw[u]at E;cases E
     ·simpa using F) (fun hr j oj O _ _ =>am hr j oj O) (Region.free_spec w T) M r1 (ih.1 _ _ _ f X (by omega) r2)
  ·intro l s σ f h1;simp[dh]at h1
 |A i t r I J=>
  constructor
  ·intro l s σ f h1 H q;simp only[dh,Bool.and_eq_true,Bool.not_true,Bool.false_or]at h1;obtain⟨⟨⟨Y,T⟩,q3⟩,X⟩:=h1;have ap:=H;simp only[bW.depth]at H;obtain⟨f,rfl⟩:∃g,f=g+1:=⟨f-1,by omega⟩;have:=ac i t r l s σ f I.1 J.2 q3 X ap q;refine⟨fun h=>by rw[h]at T;simp at T,fun j u=>this j ?_⟩;have:=all_eq_true.1 Y j u;simpa using this
  ·intro l s σ f h1 H q;simp only[dh,Bool.and_eq_true,Bool.not_false,Bool.true_or,true_and]at h1;exact ac i t r l s σ f I.1 J.2 h1.1 h1.2 H q
 |W i t r I J=>
  constructor
  ·intro l s σ f h1 H q;simp only[dh,Bool.and_eq_true,Bool.not_true,Bool.false_or]at h1;obtain⟨⟨⟨Y,T⟩,q3⟩,X⟩:=h1;have ap:=H;simp only[bW.depth]at H;obtain⟨f,rfl⟩:∃g,f=g+1:=⟨f-1,by omega⟩;have:=ab i t r l s σ f I.1 J.2 q3 X ap q;refine⟨fun h=>by rw[h]at T;simp at T,fun j u=>this j ?_⟩;have:=all_eq_true.1 Y j u;simpa using this
  ·intro l s σ f h1 H q;simp only[dh,Bool.and_eq_true,Bool.not_false,Bool.true_or,true_and]at h1;exact ab i t r l s σ f I.1 J.2 h1.1 h1.2 H q
def ye {n:Nat}{ds:List Deferred}{G0:Gh}{ops:Array Oper}{Q:AQ} :∀(f:Nat) (j:Array Bool) (G:Gh) (s:Fr) (σ:AS) (a:Act) (w:World),sJ P n ops Q f j s σ→G0.Le G→oS P G n ds s σ a w→
 wpAny P .any ops (LQ P n ds Q G0) f j a w:=by
 intro f;induction f with
 |zero=>intro j G s σ a w h hle l;exact⟨h.1,G,s,σ,hle,l,h.2⟩
 |succ f F=>
  intro j G s σ a w h hle l;refine⟨fun he=>⟨G,s,σ,hle,l,h.1 he⟩,fun i T=> ?_⟩;obtain⟨o,J,E⟩:=h.2 i T;rcases E with E|⟨hd,H,O⟩;rotate_left
  ·have u:∀t,o.dst=some t→t<n:=by intro t ht;rw[ht]at hd;exact hd
   unfold wpOp;simp only[J];have hw:Region.wanted o (yielded ops a.tmps)=true:=by simp[Region.wanted,H]
   rw[if_pos hw];refine .inl ?_;have:=O G a.eval w l.inv (fun x=>Qe o s x (l.ev x));unfold Oper.wp;generalize (execOp a.eval o).run P w=r at this⊢;cases r with
   |ok M w'=>
    cases M<;>simp only[Out]at this<;>first|exact this.elim|skip
    ·obtain⟨G',q,I,g1,g2,g3,v⟩:=this;exact F _ G' _ _ _ _ v.2 (hle.trans g1) (l.put g1 g2 o.dst u g3)
    ·obtain⟨G',q,I,g1,g2,g3,v⟩:=this;exact F _ G' _ _ _ _ v.2 (hle.trans g1) (l.put g1 g2 o.dst u g3)
   |halt x w'=>
    cases x<;>simp only[Out]at this<;>first|exact this.elim|skip
    obtain⟨G',q,I,g1,g2,g3,v⟩:=this;exact⟨rfl,rfl,G',s,q,I,hle.trans g1,⟨g2,l.size,l.ds,fun i=>(l.rep i).mono g1⟩,g3,v⟩
  rw[←lS]at E;have:=oG o E hle l (next:=wpAny P .any ops (LQ P n ds Q G0) f (j.setIfInBounds i true)) (fun G' L q Y w' h1 X V=>F _ G' L q Y w' V h1 X);unfold wpOp;simp only[J];by_cases hw:Region.wanted o (yielded ops a.tmps)=true
  ·rw[if_pos hw]at this⊢;exact .inl this
  ·rw[if_neg hw]at this⊢;exact this
def aq.OT {n:Nat}{ds:List Deferred}{id:Nat}{l:List Oper}{Q:AQ}{s:Fr}{σ:AS}(hm:P.follows .mixedOrders=true) (ro:Bool) (t:bW)
 (i:(!ro||l.all fun o=>ku o.op)=true) (E:dh l.toArray ro true (Array.replicate l.length false) t=true) (hd:decide (t.depth≤l.length)=true)
 (I:∀o∈l,∀p s v σ,Q (.panic p) (s.put o.dst v) σ→Q (.panic p) s σ) (h:bu P n l.toArray ro Q t s σ):aq P n ds (.region id l.toArray true) Q s σ:=by
 intro G0 G a w h1 u;have F:oS P G n ds s σ a { w with drawn:=w.drawn+1 } :=⟨u.inv.drew,u.size,u.ds,u.rep⟩;refine wp_region_any hm ?_;have:=(Bh (P:=P) (n:=n) (fun j o q=>I o (by rw[getElem?_toArray]at q;exact mem_of_getElem? q)) (fun H j o q=>by rw[H]at i;simp only[Bool.not_true,Bool.false_or,all_eq_true]at i;refine i o ?_;rw[getElem?_toArray]at q;exact mem_of_getElem? q) t).1 _ s σ l.length E (by simpa using hd) h;have:=ye (ds:=ds) l.length _ G s σ a _ this h1 F;simpa using this
def aq.draw {n:Nat}{ds:List Deferred}{id:Nat}{l:List Oper}{Q:AQ}{s:Fr}{σ:AS}(hm:P.follows .mixedOrders=true) (ro:Bool) (t:bW)
 (i:(!ro||l.all fun o=>ku o.op)=true) (j:dh l.toArray ro true (Array.replicate l.length false) t=true) (hd:decide (t.depth≤l.length)=true)
 (v:∀p s q σ,Q (.panic p) s σ→Q (.panic p) q σ) (h:bu P n l.toArray ro Q t s σ):aq P n ds (.region id l.toArray true) Q s σ:=
 aq.OT hm ro t i j hd (fun _ _ p _ _ σ u=>v p _ _ σ u) h
end Go.AW
namespace Go.AW
@[simp] def mz (s:Fr) (d i:Nat) (v:AV):(s.put (some d) v) i=if i=d then v else s i:=rfl
@[simp] def Sr (s:Fr) (v:AV):s.put none v=s:=rfl
@[simp] def Wd (s:Fr) (t:Nat):ev s (.tmp t)=s t:=rfl
@[simp] def Tm (s:Fr) (v:Value):ev s (.const v)=FW v:=rfl
@[simp] def UM (s:Fr) (f:Nat):ev s (.func f)= .sc (.func (.func f) #[] #[]):=rfl
@[simp] def Ur:FW (.slice none 0 0)= .ai:=rfl
@[simp] def Ut (k:IntKind) (n:Int):FW (.int k n)= .sc (.int k n):=rfl
@[simp] def SC (b:Bool):FW (.bool b)= .sc (.bool b):=rfl
@[simp] def Up (b:ByteArray):FW (.string b)= .sc (.string b):=rfl
@[simp] def Uq:FW (.pointer none)= .sc (.pointer none):=rfl
@[simp] def Us:FW (.map none)= .sc (.map none):=rfl
@[simp] def Vv:FW .nilFunc= .sc .nilFunc:=rfl
@[simp] def Vu:FW .nilIface= .sc .nilIface:=rfl
@[simp] def Tk (l:List AV) (i:Nat):ss l i=l.getD i .any:=rfl
@[simp] def L6 (K:Fr→AS→Prop) (Q:AQ) (s:Fr) (σ:AS):dF K Q .normal s σ=K s σ:=rfl
@[simp] def L7 (K:Fr→AS→Prop) (Q:AQ) (i:Nat) (s:Fr) (σ:AS):dF K Q (.exit i) s σ=Q (.exit i) s σ:=rfl
@[simp] def L4 (K:Fr→AS→Prop) (Q:AQ) (s:Fr) (σ:AS):dF K Q .ret s σ=Q .ret s σ:=rfl
@[simp] def L5 (K:Fr→AS→Prop) (Q:AQ) (v:AV) (s:Fr) (σ:AS):dF K Q (.panic v) s σ=Q (.panic v) s σ:=rfl
@[simp] def Eu (i:Nat) (Q:AQ) (s:Fr) (σ:AS):kz i Q .normal s σ=Q .normal s σ:=rfl
@[simp] def Ev (i j:Nat) (Q:AQ) (s:Fr) (σ:AS):kz i Q (.exit j) s σ=if j=i then Q .normal s σ else Q (.exit j) s σ:=rfl
@[simp] def Es (i:Nat) (Q:AQ) (s:Fr) (σ:AS):kz i Q .ret s σ=Q .ret s σ:=rfl
@[simp] def Et (i:Nat) (Q:AQ) (v:AV) (s:Fr) (σ:AS):kz i Q (.panic v) s σ=Q (.panic v) s σ:=rfl
def Ends (P:Program) (R:AV→AS→Prop) (σ:AS) (x:AV):Prop:= ∃i h,AV.Wk P x i∧AS.le h σ∧R i h
@[simp] def UQ (P:Program) (rs:List ResultVar) (R h:AV→AS→Prop) (s:Fr) (σ:AS):uR P rs R h .ret s σ=dV rs P s σ fun vs=>Ends P R σ (eE vs):=rfl
@[simp] def US (P:Program) (rs:List ResultVar) (R h:AV→AS→Prop) (s:Fr) (σ:AS):uR P rs R h .normal s σ=dV rs P s σ fun vs=>Ends P R σ (eE vs):=rfl
@[simp] def UR (P:Program) (rs:List ResultVar) (R i:AV→AS→Prop) (v:AV) (s:Fr) (σ:AS):uR P rs R i (.panic v) s σ= ∃h,AS.le h σ∧i v h:=rfl
def iO:List (Nat×AV)→Fr
 |[],_ => .any
 |(j,v)::r,i=>if i=j then v else iO r i
@[simp] def Uv (i:Nat):iO [] i= .any:=rfl
@[simp] def Cn (j:Nat) (v:AV) (r:List (Nat×AV)) (i:Nat):iO ((j,v)::r) i=if i=j then v else iO r i:=rfl
def aN.mk {P:Program}{s:Fr}{l:List (Nat×AV)}(h:∀p∈l,AV.Wk P (s p.1) p.2):aN P s (iO l):=by
 intro i;induction l with
 |nil=>exact fun _ _ _ => .any _
 |cons p r w=>
  obtain⟨j,v⟩:=p;simp only[Cn];split
  ·rename_i u;subst u;exact h (i,v) (by simp)
  ·exact w fun q E=>h q (by simp[E])
def Wk.refl {P:Program}(v:AV):AV.Wk P v v:=fun _ _ h=>h
@[simp] def U5 {P:Program}(v:AV):AV.Wk P v v↔True:=⟨fun _ =>trivial,fun _ =>Wk.refl v⟩
@[simp] def qh {P:Program}(e:TypeId) (es:List AV) (o:cC) (nil:Bool):AV.Wk P (.ao e es o nil) (.ao e es .aI nil)↔True:=⟨fun _ =>trivial,fun _ G x h=>by
 cases h with
 |iP j=>exact .iP trivial
 |pL=>exact .pL
 |ao vs hl hm i l j=>exact .ao vs hl hm i l trivial⟩
@[simp] def jv {P:Program}(e:TypeId):AV.Wk P .ai (.ao e [] .aI true)↔True:=⟨fun _ =>trivial,fun _ G x h=>by cases h;exact .iP trivial⟩
@[simp] def cq {P:Program}{a b u q:AV}(h1:AV.Wk P a u) (v:AV.Wk P b q):AV.Wk P (.bI [a,b]) (.bI [u,q]):=by
 intro G x h;cases h with
 |bI vs l h=>
  refine .bI vs l fun i j=> ?_;have:=h i j
  match i,j with
  |0,_ =>exact h1 _ _ this
  |1,_ =>exact v _ _ this
@[simp] def ju {P:Program}{a b c v u q:AV}(h1:AV.Wk P a v) (E:AV.Wk P b u) (w:AV.Wk P c q):AV.Wk P (.bI [a,b,c]) (.bI [v,u,q]):=by
 intro G x h;cases h with
 |bI vs l h=>
  refine .bI vs l fun i j=> ?_;have:=h i j
  match i,j with
  |0,_ =>exact h1 _ _ this
  |1,_ =>exact E _ _ this
  |2,_ =>exact w _ _ this
def ah (v:AV) (σ:AS) (r:AV) (h:AS):Prop:=r=v∧σ=h
def No (_ :AV) (_ :AS):Prop:=False
def kQ (f:Nat→AV) (n:Nat) (σ:AS) (r:AV) (i:AS):Prop:= ∃h,σ h=none∧r=f h∧i=σ.set h (.tok n)
@[simp] def Rm {P:Program}{x v:AV}{σ h:AS} :Ends P (ah v h) σ x↔AV.Wk P x v∧AS.le h σ:=
 ⟨fun⟨u,q,h1,i,l,j⟩=>by subst l;subst j;exact⟨h1,i⟩,fun⟨h1,i⟩=>⟨v,h,h1,i,rfl,rfl⟩⟩
def da {P:Program}{x:AV}{f:Nat→AV}{n:Nat}{σ i:AS}(h:Nat) (h0:i h=none) (h1:AV.Wk P x (f h)) (j:AS.le (i.set h (.tok n)) σ):Ends P (kQ f n i) σ x:=
 ⟨f h,_,h1,j,h,h0,rfl,rfl⟩
@[simp] def SS (σ:AS):AS.le σ σ↔True:=⟨fun _ =>trivial,fun _ =>AS.le_refl σ⟩
@[simp] def kh {j σ:AS}{i:Nat}{b:bP}(l:j i=none) (h:AS.le j σ):AS.le j (σ.set i b):=AS.aj h l
def Av {l σ:AS}{i:Nat}{b:bP}(h:AS.le l σ):AS.le (l.set i b) (σ.set i b):=by
 intro j x e;by_cases q:j=i
 ·subst q;simp[AS.set]at e⊢;exact e
 ·simp[AS.set,q]at e⊢;exact h j x e
@[simp] def AS.Uc (σ:AS) (i j:Nat) (b:bP):(σ.set i b) j=if j=i then some b else σ j:=rfl
@[simp] def Nl {α:Type}{c:Prop}[Decidable c] {a:α}{x:Option α} :((if c then some a else x)=none)↔(¬c∧x=none):=by by_cases h:c<;>simp[h]
def AS.set_comm {τ:AS}{i j:Nat}{a b:bP}(h:j≠i):(τ.set j b).set i a=(τ.set i a).set j b:=by funext k;by_cases h1:k=i<;>by_cases l:k=j<;>simp[AS.set,h1,l]<;>omega
@[simp] def AS.s2 {τ:AS}{i j:Nat}{a b c:bP}(h:j≠i):((τ.set i a).set j b).set i c=(τ.set i c).set j b:=by rw[AS.set_comm h,AS.set_set]
@[simp] def AS.s3 {τ:AS}{i j k:Nat}{a b c d:bP}(h:j≠i) (l:k≠i):(((τ.set i a).set j b).set k d).set i c=((τ.set i c).set j b).set k d:=by rw[AS.set_comm l,AS.s2 h]
@[simp] def AS.s4 {τ:AS}{i j k l:Nat}{a b c d e:bP}(h:j≠i) (u:k≠i) (q:l≠i):((((τ.set i a).set j b).set k d).set l e).set i c=(((τ.set i c).set j b).set k d).set l e:=by rw[AS.set_comm q,AS.s3 h u]
@[simp] def AS.s5 {τ:AS}{i j k l m:Nat}{a b c d e f:bP}(h:j≠i) (v:k≠i) (u:l≠i) (q:m≠i):
 (((((τ.set i a).set j b).set k d).set l e).set m f).set i c=((((τ.set i c).set j b).set k d).set l e).set m f:=by
 rw[AS.set_comm q,AS.s4 h v u]
def an {q σ:AS}{i:Nat}{b:bP}(u:σ i=none) (h:AS.le q σ):AS.le q (σ.set i b):=by
 intro j x e;have:=h j x e;have l:j≠i:=by intro v;subst v;rw[u]at this;cases this
 simpa[AS.set,l]using this
@[simp] def Un (v:AV):eE [v]=v:=rfl
@[simp] def Um (a b:AV):eE [a,b]= .bI [a,b]:=rfl
@[simp] def Ul (a b c:AV):eE [a,b,c]= .bI [a,b,c]:=rfl
@[simp] def Uo:eE []= .bI []:=rfl
@[simp] def Rc {P:Program}{s:Fr}{σ:AS}{K:List AV→Prop} :dV [] P s σ K=K []:=rfl
@[simp] def Rb {P:Program}{s:Fr}{σ:AS}{K:List AV→Prop}{t:Nat}{r:List ResultVar} :dV (.tmp t::r) P s σ K=dV r P s σ fun vs=>K (s t::vs):=rfl
@[simp] def PB {P:Program}{s:Fr}{σ:AS}{K:List AV→Prop}{a t:Nat}{r:List ResultVar} :dV (.cell a t::r) P s σ K=eX P σ t (s a) fun v=>dV r P s σ fun vs=>K (v::vs):=rfl
def aq.fy {P:Program}{n:Nat}{ds:List Deferred}{c:Code}{Q:AQ}{s:Fr}{σ:AS}(i:Nat) (e:TypeId) (es:List AV) (nil:Bool) (M:i<n) (u:s i= .ao e es .full nil∨(s i= .ai∧es= []∧nil=true))
 (h:∀E,σ E=none→aq P n ds c Q (s.put (some i) (.ao e es (.tok E) nil)) (σ.set E (.tok es.length))):aq P n ds c Q s σ:=by
 intro G0 G a w h1 l;have L:aV P G (.ao e es .full nil) (a.tmps.getD i undef):=by
  have:=l.rep i;rcases u with u|⟨u,rfl,rfl⟩
  ·rw[u]at this;exact this
  ·rw[u]at this;generalize a.tmps.getD i undef=v at this⊢;cases this;exact .iP ⟨none,rfl⟩
 obtain⟨r,F,J,I⟩:=L.fy l.inv;have q:oS P (G.fy r) n ds (s.put (some i) (.ao e es (.tok G.top) nil)) (σ.set G.top (.tok es.length)) a w:=by
  refine⟨J,l.size,l.ds,fun j=> ?_⟩;by_cases H:j=i
  ·subst H;simpa[mz]using I
  ·simp only[mz,H,if_false];exact(l.rep j).mono F
 exact h G.top l.inv.fresh G0 _ a w (h1.trans F) q
variable {P:Program} {n:Nat} {ds:List Deferred} {g:Option (Nat×Bool)}
@[congr] def Rz {c:Code}{Q:AQ}{s i:Fr}{σ h:AS}(h1:s=i) (j:σ=h):aq P n ds c Q s σ=aq P n ds c Q i h:=by subst h1 j;rfl
@[congr] def N1 {ops:Array Oper}{Q:AQ}{l:List Oper}{s i:Fr}{σ h:AS}(h1:s=i) (j:σ=h):jZ P n ops Q l s σ=jZ P n ops Q l i h:=by subst h1 j;rfl
@[congr] def Mq {ops:Array Oper}{ro:Bool}{Q:AQ}{t:bW}{s i:Fr}{σ h:AS}(h1:s=i) (j:σ=h):bu P n ops ro Q t s σ=bu P n ops ro Q t i h:=by subst h1 j;rfl
@[congr] def Oe {t:TypeId}{ps h:List (Nat×AV)}{K:AV→Prop}(h1:ps=h):rL P t ps K=rL P t h K:=by subst h1;rfl
@[congr] def Od {σ h:AS}{t:TypeId}{x i:AV}{K:AV→AS→Prop}(h1:x=i) (j:σ=h):ny P σ t x K=ny P h t i K:=by subst h1 j;rfl
@[congr] def QT {op:BinOp}{t:TypeId}{x i y h:AV}{K:AV→Prop}(h1:x=i) (j:y=h):g9 P op t x y K=g9 P op t i h K:=by subst h1 j;rfl
@[congr] def Oc {t:TypeId}{x l:AV}{lo i q j mx h:Option AV}{K:AV→Prop}(h1:x=l) (w:lo=i) (v:q=j) (u:mx=h):gh P t x lo q mx K=gh P t l i j h K:=by subst h1 w v u;rfl
@[congr] def Lx {σ j:AS}{b:Builtin}{ts h:List TypeId}{as i:List AV}{K:AV→AS→Prop}(h1:as=i) (q:σ=j) (l:ts=h):bE P σ b ts as K=bE P j b h i K:=by subst h1 q l;rfl
@[congr] def JC {f i:AV}{as h:List AV}{K:AV→Prop}(h1:as=h) (j:f=i):aD P f as K=aD P i h K:=by subst h1 j;rfl
@[congr] def O3 {σ i:AS}{f j:AV}{as h:List AV}{K l:AV→AS→Prop}(h1:as=h) (u:σ=i) (q:f=j):ag P f as σ K l=ag P j h i K l:=by subst h1 u q;rfl
def MJ (K:Fr→AS→Prop) (s:Fr) (d:Option Nat) (v:AV) (σ:AS):Prop:=K (s.put d v) σ
def MS (Q:AQ) (s:Fr) (v:AV) (σ:AS):Prop:=Q (.panic v) s σ
def EU (K:AV→AS→Prop) (σ:AS) (v:AV):Prop:=K v σ
def TS (K:AV→AS→Prop) (σ:AS):Prop:=K .any σ
def TT (K:AV→Prop) (cs:List AV):Prop:=K (.agg cs)
def Ue (K:AV→Prop) (v:Value):Prop:=K (.sc v)
@[simp ↓] def Vr (K:Fr→AS→Prop) (s:Fr) (d:Option Nat) (v:AV) (σ:AS):MJ K s d v σ=K (s.put d v) σ:=rfl
@[simp ↓] def Vt (Q:AQ) (s:Fr) (v:AV) (σ:AS):MS Q s v σ=Q (.panic v) s σ:=rfl
@[simp ↓] def Xu (K:AV→AS→Prop) (σ:AS) (v:AV):EU K σ v=K v σ:=rfl
@[simp ↓] def Wz (K:AV→AS→Prop) (σ:AS):TS K σ=K .any σ:=rfl
@[simp ↓] def WC (K:AV→Prop) (cs:List AV):TT K cs=K (.agg cs):=rfl
@[simp ↓] def Xa (K:AV→Prop) (v:Value):Ue K v=K (.sc v):=rfl
section steps
variable {ops:Array Oper} {Q:AQ} {s:Fr} {σ:AS} {K:Fr→AS→Prop} {Kv Pn:AV→AS→Prop} {KA:AV→Prop} {rest:List Oper} {o:Oper}
 {d:Option Nat} {op:Op} {ty:TypeId} {pos:String} {af:Array Edge}
def bx (P:Program) (n:Nat) (o:Oper) (s:Fr) (σ:AS) (K:Fr→AS→Prop) (Q:AQ) (g:AV) (want:Bool):Prop:=
 iB g want (lE P n o s σ K Q) ((match o.dst with|none=>True|some d=>d<n)∧K (s.put o.dst kT) σ)
def rY (x:Option Oper) (A:Oper→Prop):Prop:=match x with|some o=>A o|none=>False
@[congr] def PZ {x i:Option Oper}{A:Oper→Prop}(h:x=i):rY x A=rY i A:=by rw[h]
@[simp ↓] def Re {A:Oper→Prop} :rY (some o) A=A o:=rfl
@[simp] def PY {A:Oper→Prop} :rY (some o) A=A o:=rfl
@[simp ↓] def Sb {ro:Bool} :bu P n ops ro Q .D s σ=Q .normal s σ:=rfl
@[simp ↓] def Sa {ro:Bool} :bu P n ops ro Q .Z s σ=True:=rfl
@[simp ↓] def R5 {ro:Bool}{i:Nat}{t:bW} :bu P n ops ro Q (.S i t) s σ=rY ops[i]? (fun o=>(ro=true∨ou s o.op=true)∧eL P n ops o s σ (bu P n ops ro Q t) Q):=by cases h:ops[i]? <;>simp only[bu,rY,h]
@[simp ↓] def R8 {ro:Bool}{i:Nat}{t:bW} :bu P n ops ro Q (.R i t) s σ=rY ops[i]? (fun o=>eL P n ops o s σ (bu P n ops ro Q t) Q):=by cases h:ops[i]? <;>simp only[bu,rY,h]
@[simp ↓] def Ud {ro:Bool}{i:Nat}{t r:bW} :bu P n ops ro Q (.A i t r) s σ=(rY ops[i]? (fun o=>eL P n ops o s σ (bu P n ops ro Q t) Q)∧bu P n ops ro Q r s σ):=by cases h:ops[i]? <;>simp only[bu,rY,h]
def ri (P:Program) (n:Nat) (o:Oper) (s:Fr) (σ:AS) (K:Fr→AS→Prop) (Q:AQ):Prop:=zA P n o s σ (fun v h=>K (s.put o.dst v) h) (fun p h=>Q (.panic p) s h)
@[congr] def Ox {K:Fr→AS→Prop}{o:Oper}{s i:Fr}{σ h:AS}(h1:s=i) (j:σ=h):ri P n o s σ K Q=ri P n o i h K Q:=by subst h1 j;rfl
@[simp ↓] def R7 {ro:Bool}{i:Nat}{t r:bW} :bu P n ops ro Q (.W i t r) s σ=(rY ops[i]? (fun o=>ri P n o s σ (bu P n ops ro Q t) Q)∧bu P n ops ro Q r s σ):=by cases h:ops[i]? <;>simp only[bu,rY,h]<;>rfl
@[simp ↓] def R9 {ro:Bool}{i:Nat}{t:bW} :bu P n ops ro Q (.U i t) s σ=rY ops[i]? (fun o=>ti P n ops o s (J1 (bu P n ops ro Q t) s o.dst σ)):=by cases h:ops[i]? <;>simp only[bu,rY,h]
@[simp ↓] def QO:jZ P n ops Q [] s σ=Q .normal s σ:=rfl
@[simp ↓] def O0:jZ P n ops Q (o::rest) s σ=eL P n ops o s σ (jZ P n ops Q rest) Q:=rfl
@[simp ↓] def Nq:eL P n ops ⟨d,op,ty,pos,af,none⟩ s σ K Q=lE P n ⟨d,op,ty,pos,af,none⟩ s σ K Q:=rfl
@[simp ↓] def Np {j:Nat}{want:Bool} :eL P n ops ⟨d,op,ty,pos,af,some (j,want)⟩ s σ K Q=bx P n ⟨d,op,ty,pos,af,some (j,want)⟩ s σ K Q (jk ops s j) want:=rfl
@[simp] def Rh:bx P n o s σ K Q (.sc (.bool true)) true=lE P n o s σ K Q:=by simp[bx,iB,yw,Qm]
@[simp] def Rl:bx P n o s σ K Q (.sc (.bool false)) false=lE P n o s σ K Q:=by simp[bx,iB,yw,Qm]
@[simp] def Ri:bx P n ⟨d,op,ty,pos,af,g⟩ s σ K Q (.sc (.bool true)) false=((match d with|none=>True|some d=>d<n)∧K (s.put d kT) σ):=propext ⟨fun h=>by rcases h with⟨h,_⟩|⟨_,h⟩;(· simp[yw]at h);exact h,fun h=> .inr ⟨rfl,h⟩⟩
@[simp] def Rk:bx P n ⟨d,op,ty,pos,af,g⟩ s σ K Q (.sc (.bool false)) true=((match d with|none=>True|some d=>d<n)∧K (s.put d kT) σ):=propext ⟨fun h=>by rcases h with⟨h,_⟩|⟨_,h⟩;(· simp[yw]at h);exact h,fun h=> .inr ⟨rfl,h⟩⟩
@[simp] def Rj {want:Bool} :bx P n ⟨d,op,ty,pos,af,g⟩ s σ K Q (.sc undef) want=((match d with|none=>True|some d=>d<n)∧K (s.put d kT) σ):=propext ⟨fun h=>by rcases h with⟨h,_⟩|⟨_,h⟩;(· simp[yw,undef]at h);exact h,fun h=> .inr ⟨rfl,h⟩⟩
@[simp ↓] def Ow {f:Operand}{args:Array Operand}{h:Array TypeId}{g:Option (Nat×Bool)} :lE P n ⟨d,.call ⟨.value f,args,h⟩,ty,pos,af,g⟩ s σ K Q=
 ((match d with|none=>True|some d=>d<n)∧ag P (ev s f) (args.toList.map (ev s)) σ (MJ K s d) (MS Q s)):=rfl
@[simp ↓] def Ou {t:Nat}{g:Option (Nat×Bool)} :lE P n ⟨some t,op,ty,pos,af,g⟩ s σ K Q=(t<n∧b8 P op s σ (MJ K s (some t)) (MS Q s)):=rfl
@[simp ↓] def Ov {g:Option (Nat×Bool)} :lE P n ⟨none,op,ty,pos,af,g⟩ s σ K Q=(True∧b8 P op s σ (MJ K s none) (MS Q s)):=rfl
@[simp ↓] def Uu (K:Fr→AS→Prop) (s:Fr) (d:Option Nat) (σ:AS) (v:AV):J1 K s d σ v=K (s.put d v) σ:=rfl
def fG (P:Program) (h:AV) (args:List AV) (K:AV→Prop) (g:AV) (want:Bool):Prop:=iB g want (aD P h args K) (K kT)
@[simp ↓] def OE {f:Operand}{args:Array Operand}{h:Array TypeId}{K:AV→Prop} :ti P n ops ⟨d,.call ⟨.value f,args,h⟩,ty,pos,af,none⟩ s K=
 ((match d with|none=>True|some d=>d<n)∧aD P (ev s f) (args.toList.map (ev s)) K):=rfl
@[simp ↓] def OC {f:Operand}{args:Array Operand}{h:Array TypeId}{K:AV→Prop}{j:Nat}{want:Bool} :ti P n ops ⟨d,.call ⟨.value f,args,h⟩,ty,pos,af,some (j,want)⟩ s K=
 ((match d with|none=>True|some d=>d<n)∧fG P (ev s f) (args.toList.map (ev s)) K (jk ops s j) want):=rfl
@[simp] def Ss {f:AV}{as:List AV}{K:AV→Prop} :fG P f as K (.sc (.bool true)) true=aD P f as K:=by simp[fG,iB,yw,Qm]
variable {x y c a b f:Operand}
@[simp ↓] def Uh:b8 P (.move x) s σ Kv Pn=Kv (ev s x) σ:=rfl
@[simp ↓] def Ra:b8 P (.assign x) s σ Kv Pn=Kv (ev s x) σ:=rfl
def OF (c a b:AV) (K:AV→AS→Prop) (σ:AS):Prop:=match c with|.sc (.bool t)=>K (if t then a else b) σ| _ =>False
@[simp ↓] def Uf:b8 P (.pick c a b) s σ Kv Pn=OF (ev s c) (ev s a) (ev s b) Kv σ:=rfl
@[simp] def Uk {t:Bool}{a b:AV} :OF (.sc (.bool t)) a b Kv σ=Kv (if t then a else b) σ:=rfl
@[simp ↓] def Sp {e:TypeId} :b8 P (.alloc e) s σ Kv Pn=Bi P σ e Kv:=rfl
@[simp ↓] def Vp {e:TypeId} :b8 P (.box e x) s σ Kv Pn=Of P σ e (ev s x) Kv:=rfl
@[simp ↓] def So {t:TypeId}{ps:Array (Nat×Operand)} :b8 P (.build t ps) s σ Kv Pn=rL P t (ps.toList.map fun p=>(p.1,ev s p.2)) (EU Kv σ):=rfl
@[simp ↓] def LN {t m:Nat}{ps:Array (Nat×Operand)} :b8 P (.buildSlice t m ps) s σ Kv Pn=ez P σ t m (ps.toList.map fun p=>(p.1,ev s p.2)) Kv:=rfl
@[simp ↓] def Ui {t:TypeId} :b8 P (.load t a) s σ Kv Pn=eX P σ t (ev s a) (EU Kv σ):=rfl
@[simp ↓] def Si {t:TypeId} :b8 P (.store t a x) s σ Kv Pn=um P σ t (ev s a) (ev s x) (TS Kv):=rfl
@[simp ↓] def OA:b8 P (.nilCheck x) s σ Kv Pn=iM (ev s x) (EU Kv σ):=rfl
@[simp ↓] def Vq {op:BinOp}{t u:TypeId} :b8 P (.binOp op t x y u) s σ Kv Pn=g9 P op t (ev s x) (ev s y) (EU Kv σ):=rfl
@[simp ↓] def Xb {op:UnOp}{t:TypeId} :b8 P (.unOp op t x) s σ Kv Pn=QR op (ev s x) (EU Kv σ):=rfl
@[simp ↓] def Uj {t u:TypeId} :b8 P (.convert t u x) s σ Kv Pn=fM P t u (ev s x) (EU Kv σ):=rfl
@[simp ↓] def Xd {t:TypeId} :b8 P (.makeInterface t x) s σ Kv Pn=(P.concrete t=true∧Kv (.rM t (ev s x)) σ):=rfl
@[simp ↓] def Xe {f:Fn}{h i:Array Operand} :b8 P (.makeFunc f h i) s σ Kv Pn=Kv (.fn f (h.toList.map (ev s)) (i.toList.map (ev s))) σ:=rfl
def SO (K:AV→AS→Prop) (σ:AS):Prop:= ∀id,σ id=none→K (.mp id) (σ.set id (.map []))
@[simp ↓] def Xc {t:TypeId}{r:Option Operand} :b8 P (.makeMap t r) s σ Kv Pn=(r.isNone=true∧SO Kv σ):=rfl
@[simp ↓] def Sk {t:TypeId} :b8 P (.range t x) s σ Kv Pn=ny P σ t (ev s x) Kv:=rfl
@[simp ↓] def Ug {b:Bool} :b8 P (.next x b) s σ Kv Pn=zw σ (ev s x) b Kv:=rfl
@[simp ↓] def Sm:b8 P (.entry x) s σ Kv Pn=uo σ (ev s x) (EU Kv σ):=rfl
@[simp ↓] def Ms {t:TypeId} :b8 P (.makeSlice t x y) s σ Kv Pn=j9 P σ t (ev s x) (ev s y) Kv:=rfl
@[simp ↓] def Sj {t:TypeId}{lo h mx:Option Operand} :b8 P (.slice t x lo h mx) s σ Kv Pn=gh P t (ev s x) (lo.map (ev s)) (h.map (ev s)) (mx.map (ev s)) (EU Kv σ):=rfl
@[simp ↓] def Xg {t i:Nat} :b8 P (.fieldAddr t x i) s σ Kv Pn=fC P t (ev s x) i (EU Kv σ):=rfl
@[simp ↓] def XR {t i:Nat} :b8 P (.field t x i) s σ Kv Pn=oP P t (ev s x) i (EU Kv σ):=rfl
@[simp ↓] def Xf {t:TypeId} :b8 P (.indexAddr t x y) s σ Kv Pn=eG P t (ev s x) (ev s y) (EU Kv σ):=rfl
@[simp ↓] def XQ {t:TypeId} :b8 P (.index t x y) s σ Kv Pn=oN P t (ev s x) (ev s y) (EU Kv σ):=rfl
@[simp ↓] def Xh {i:Nat} :b8 P (.extract x i) s σ Kv Pn=l0 (ev s x) i (EU Kv σ):=rfl
def JK (x:AV) (Pn:AV→AS→Prop) (σ:AS):Prop:=match x with|.rM t v=>Pn (.rM t v) σ| _ =>False
@[simp ↓] def Sl:b8 P (.panic x) s σ Kv Pn=JK (ev s x) Pn σ:=rfl
@[simp] def SA {t:TypeId}{v:AV} :JK (.rM t v) Pn σ=Pn (.rM t v) σ:=rfl
@[simp ↓] def Xi {b:Builtin}{args:Array Operand}{h:Array TypeId} :b8 P (.call ⟨.builtin b,args,h⟩) s σ Kv Pn=bE P σ b h.toList (args.toList.map (ev s)) Kv:=rfl
@[simp] def Wy {t:TypeId}{x:AV} :bE P σ .len [t] [x] Kv=jz P σ t x (EU Kv σ):=rfl
@[simp] def Rv {t u:TypeId}{x y:AV} :bE P σ .append [t,u] [x,y] Kv=mK P σ t u x y Kv:=rfl
@[simp] def U3 {t u:TypeId}{x y:AV} :bE P σ .copy [t,u] [x,y] Kv=gU P σ t x y Kv:=rfl
@[simp] def Ww {ts:List TypeId}{k k':IntKind}{a b:Int} :bE P σ .min ts [.sc (.int k a),.sc (.int k' b)] Kv=Kv (.sc (.int k (if b<a then b else a))) σ:=rfl
@[simp] def Wx {ts:List TypeId}{k k':IntKind}{a b:Int} :bE P σ .max ts [.sc (.int k a),.sc (.int k' b)] Kv=Kv (.sc (.int k (if a<b then b else a))) σ:=rfl
end steps
section values
variable {K:AV→Prop} {op:BinOp} {t:TypeId} {σ:AS}
@[simp] def U0 {k k':IntKind}{a b:Int} :g9 P op t (.sc (.int k a)) (.sc (.int k' b)) K=if sh op then yh op k a b (Ue K)else k=k'∧fj op k a b (Ue K):=rfl
@[simp] def UW {a b:ByteArray} :g9 P op t (.sc (.string a)) (.sc (.string b)) K=uu op a b (Ue K):=rfl
@[simp] def U1 {xs h:List AV} :g9 P op t (.agg xs) (.agg h) K=(match jm P 8 t (.agg xs) (.agg h),op with
 |some r,.eql=>P.eqGuardType P.depth t=false∧K (.sc (.bool r))
 |some r,.neq=>P.eqGuardType P.depth t=false∧K (.sc (.bool (!r)))
 | _,_ =>False):=rfl
@[simp] def TQ {a b:Bool} :g9 P op t (.sc (.bool a)) (.sc (.bool b)) K=(match P.underlying t,op with
 |some .bool,.eql=>K (.sc (.bool (a==b)))
 |some .bool,.neq=>K (.sc (.bool (!(a==b))))
 | _,_ =>False):=rfl
@[simp] def Wv {e:TypeId}{es:List AV}{o:cC}{nl:Bool} :g9 P op t (.ao e es o nl) .ai K=dE P op t (.ao e es o nl) .ai K:=rfl
@[simp] def Wu:g9 P op t .ai .ai K=dE P op t .ai .ai K:=rfl
@[simp] def Wt {i a b c:Nat} :g9 P op t (.fH i a b c) .ai K=dE P op t (.fH i a b c) .ai K:=rfl
@[simp] def Ws {i a:Nat} :g9 P op t (.ptr i a) (.sc (.pointer none)) K=dE P op t (.ptr i a) (.sc (.pointer none)) K:=rfl
@[simp] def Wr {cs:List AV} :g9 P op t (.iv cs) (.sc (.pointer none)) K=dE P op t (.iv cs) (.sc (.pointer none)) K:=rfl
@[simp] def Wq:g9 P op t (.sc (.pointer none)) (.sc (.pointer none)) K=dE P op t (.sc (.pointer none)) (.sc (.pointer none)) K:=rfl
@[simp] def Wp {u:TypeId}{v:AV} :g9 P op t (.rM u v) (.sc .nilIface) K=dE P op t (.rM u v) (.sc .nilIface) K:=rfl
@[simp] def Wo {f:Fn}{a b:List AV} :g9 P op t (.fn f a b) (.sc .nilFunc) K=dE P op t (.fn f a b) (.sc .nilFunc) K:=rfl
@[simp] def Wn {f:Fn}{a b:Array Value} :g9 P op t (.sc (.func f a b)) (.sc .nilFunc) K=dE P op t (.sc (.func f a b)) (.sc .nilFunc) K:=rfl
@[simp] def UZ:g9 P op t (.sc .nilFunc) (.sc .nilFunc) K=dE P op t (.sc .nilFunc) (.sc .nilFunc) K:=rfl
@[simp] def UY {i:Nat} :g9 P op t (.mp i) (.sc (.map none)) K=dE P op t (.mp i) (.sc (.map none)) K:=rfl
@[simp] def UX:g9 P op t (.sc (.map none)) (.sc (.map none)) K=dE P op t (.sc (.map none)) (.sc (.map none)) K:=rfl
@[simp] def Rd {b:ByteArray}{K:AV→AS→Prop} :ny P σ t (.sc (.string b)) K=(P.underlying t=some .string∧ ∀id,σ id=none→K (.ptr id 0) (σ.set id (.lF b 0))):=rfl
@[simp] def UP {ps:List (Nat×AV)} :rL P t ps K=(bN P t=true∧(ax P t).laid=true∧nz P t (ax P t).cells ps (TT K)):=rfl
def N0:Option AV→Prop
 |none=>True
 |some (.sc (.int _ n))=>0≤n
 | _ =>False
def ns:Option AV→Nat→Nat
 |some (.sc (.int _ n)),_ =>n.toNat
 | _,d=>d
def uq {x:Option AV}{d:Nat}{K:Nat→Prop} :ka x d K=(N0 x∧K (ns x d)):=by unfold ka N0 ns;split<;>simp_all
@[simp] def Q9 {e:TypeId}{es:List AV}{o:cC}{nl:Bool}{lo h:Option AV} :gh P t (.ao e es o nl) lo h none K=
 (cr P t=some e∧P.cellsOf e≠0∧N0 h∧ns h es.length≤es.length∧N0 lo∧ns lo 0≤ns h es.length∧K (.ao e ((es.take (ns h es.length)).drop (ns lo 0)) .aI nl)):=by
 simp only[gh,uq]
@[simp] def Q7 {s:ByteArray}{lo h:Option AV} :gh P t (.sc (.string s)) lo h none K=
 (P.underlying t=some .string∧N0 h∧ns h s.size≤s.size∧N0 lo∧ns lo 0≤ns h s.size∧K (.sc (.string (s.extract (ns lo 0) (ns h s.size))))):=by
 simp only[gh,uq]
@[simp] def Q8 {id off len cap:Nat}{lo h:Option AV} :gh P t (.fH id off len cap) lo h none K=
 (match cr P t with
  |some e=>P.cellsOf e≠0∧N0 h∧ns h len≤cap∧N0 lo∧ns lo 0≤ns h len∧ns lo 0<cap∧K (.fH id (off+ns lo 0*P.cellsOf e) (ns h len-ns lo 0) (cap-ns lo 0))
  |none=>False):=by
 simp only[gh,uq];cases cr P t<;>rfl
end values
def Kd (P:Program) (I:Nat→Fr→AS→Prop) (k:Nat) (j:Fr) (i:AS):Prop:= ∃k' s1 h,k'<k∧aN P j s1∧AS.le h i∧I k' s1 h
def aq.dc {c:Code}{Q:AQ}{s:Fr}{σ:AS}(I:Nat→Fr→AS→Prop) {k0:Nat}{i:Fr}{h:AS}(h0:I k0 i h) (l:aN P s i) (j:AS.le h σ)
 (q:∀k s σ,I k s σ→aq P n ds c (dF (Kd P I k) Q) s σ):aq P n ds (.loop c) Q s σ:=aq.loop I h0 l j q
@[simp] def aR {cs:List AV} :(AV.agg cs).cells=cs:=rfl
@[simp] def Ts {v:Value} :(AV.sc v).cells= [.sc v]:=rfl
@[simp] def Rr {i o:Nat} :(AV.ptr i o).cells= [.ptr i o]:=rfl
@[simp] def QJ {cs:List AV} :(AV.iv cs).cells= [.iv cs]:=rfl
@[simp] def QI:AV.ai.cells= [.ai]:=rfl
@[simp] def Rt {e:TypeId}{es:List AV}{o:cC}{nl:Bool} :(AV.ao e es o nl).cells= [.ao e es o nl]:=rfl
@[simp] def Rs {a b c d:Nat} :(AV.fH a b c d).cells= [.fH a b c d]:=rfl
@[simp] def Tt {i:Nat} :(AV.mp i).cells= [.mp i]:=rfl
@[simp] def Tu {f:Fn}{a b:List AV} :(AV.fn f a b).cells= [.fn f a b]:=rfl
@[simp] def Ru {t:TypeId}{v:AV} :(AV.rM t v).cells= [.rM t v]:=rfl
@[simp] def IG (b:UInt8):u8 b= .sc (.int .u8 b.toNat):=rfl
@[simp] def cast_eq (a b:Nat):((a:Int)=(b:Int))=(a=b):=by simp only[eq_iff_iff];omega
attribute [simp] uo zw F4 j9 ou sd jk uu sh QR l0 iM fM fC oP eG oN N0 ns eX um Bi Of nz ez g8 jz mK kr fE dE isNil si AV.laid AV.Iu AV.one oa L6 L7 L4 L5 Eu Ev Es Et
@[simp] def W1 {k:IntKind}{a b:Int}{K:Value→Prop} :yh .shr k a b K=(0≤b∧K (.int k (a/2^(min b.toNat k.bits)))):=by simp[yh,Int.fdiv_eq_ediv_of_nonneg _ (Int.le_of_lt (Int.pow_pos (show(0:Int)<2 by decide)))]
@[simp] def W3 {k:IntKind}{a b:Int}{K:Value→Prop} :yh .shl k a b K=(0≤b∧K (.int k (k.wrap (a*2^(min b.toNat k.bits))))):=rfl
def aq.LS {c:Code}{Q:AQ}{s:Fr}{σ:AS}(id:Nat) {ty:TypeId}{cs:List AV}(cs':List AV) (hl:cs.length=cs'.length) (J:∀k,k<cs'.length→AV.Wk P (cs.getD k .any) (cs'.getD k .any))
 (h:aq P n ds c Q s (σ.set id (.cells ty cs'))):aq P n ds c Q s (σ.set id (.cells ty cs)):=by
 intro G0 G a w h1 E;refine h G0 G a w h1 ⟨?_,E.size,E.ds,E.rep⟩;have q:=E.inv;have other:∀j,j≠id→(σ.set id (.cells ty cs')) j=(σ.set id (.cells ty cs)) j:=fun j l=>by simp[AS.set,l]
 refine { below:=q.below,base:=q.base,mem:=q.mem,top:=q.top,dm:=fun i b e=>⟨(q.dm i b e).1,(q.dm i b e).2.1,fun u v I=>by
  by_cases l:i=id
  ·subst l;exact(q.dm i b e).2.2 ty cs (by simp[AS.set])
  ·exact(q.dm i b e).2.2 u v (by rw[←other i l];exact I)⟩,fA:=q.fA,own:=q.own,cells:= ?_,maps:= ?_,dQ:= ?_,tok:= ?_ }
 ·intro j u v e;by_cases l:j=id
  ·subst l;simp only[AS.set,if_true]at e;cases e;obtain⟨b,vs,g1,g2,g3,H⟩:=q.cells j ty cs (by simp[AS.set]);exact⟨b,vs,g1,g2,by omega,fun k F=>⟨J k F _ _ (H k (by omega)).1,(H k (by omega)).2⟩⟩
  ·exact q.cells j u v (by rw[←other j l];exact e)
 ·intro j es e;by_cases l:j=id
  ·subst l;simp[AS.set]at e
  ·exact q.maps j es (by rw[←other j l];exact e)
 ·intro j es p e;by_cases l:j=id
  ·subst l;simp[AS.set]at e;subst e;cases p
  ·exact q.dQ j es p (by rw[←other j l];exact e)
 ·intro j m e;by_cases l:j=id
  ·subst l;simp[AS.set]at e
  ·exact q.tok j m (by rw[←other j l];exact e)
def lr (w:Nat) (a b:Int):Int:=((BitVec.ofInt w a&&& BitVec.ofInt w b).toNat:Int)
def Dz (w:Nat) (a b:Int):Int:=((BitVec.ofInt w a|||BitVec.ofInt w b).toNat:Int)
section
variable {k:IntKind} {a b:Int} {K:Value→Prop}
@[simp] def V5:fj .add k a b K=K (.int k (k.wrap (a+b))):=rfl
@[simp] def VU:fj .sub k a b K=K (.int k (k.wrap (a-b))):=rfl
@[simp] def VY:fj .mul k a b K=K (.int k (k.wrap (a*b))):=rfl
@[simp] def V4:fj .and k a b K=K (.int k (k.wrap (lr k.bits a b))):=rfl
@[simp] def Xk:fj .or k a b K=K (.int k (k.wrap (Dz k.bits a b))):=rfl
@[simp] def VW:fj .quo k a b K=(b≠0∧K (.int k (k.wrap (a.tdiv b)))):=rfl
@[simp] def VV:fj .rem k a b K=(b≠0∧K (.int k (a.tmod b))):=rfl
@[simp] def V3:fj .eql k a b K=K (.bool (decide (a=b))):=by simp[fj]
@[simp] def VX:fj .neq k a b K=K (.bool (!decide (a=b))):=by simp[fj]
@[simp] def VZ:fj .lss k a b K=K (.bool (decide (a<b))):=by simp[fj]
@[simp] def V0:fj .leq k a b K=K (.bool (decide (a≤b))):=by simp[fj]
@[simp] def V1:fj .gtr k a b K=K (.bool (decide (b<a))):=by simp[fj]
@[simp] def V2:fj .geq k a b K=K (.bool (decide (b≤a))):=by simp[fj]
end
def ag.of {f:FuncId}{args:List AV}{σ:AS}{R j K l:AV→AS→Prop}(h:ad P f args σ R j) (u:∀r i,R r i→K r i) (q:∀r i,j r i→l r i):ag P (.sc (.func (.func f) #[] #[])) args σ K l:=⟨rfl,rfl,R,j,h,u,q⟩
def ag.ay {f:FuncId}{args:List AV}{σ i:AS}{v:AV}{K q:AV→AS→Prop}(h:ad P f args σ (ah v i) No) (j:K v i):ag P (.sc (.func (.func f) #[] #[])) args σ K q:=
 .of h (fun r u ⟨h1,l⟩=>by subst h1;subst l;exact j) (fun _ _ h=>h.elim)
def ag.yo {f:FuncId}{args:List AV}{σ:AS}{v:Nat→AV}{m:Nat}{K u:AV→AS→Prop}(h:ad P f args σ (kQ v m σ) No) (j:∀i,σ i=none→K (v i) (σ.set i (.tok m))):ag P (.sc (.func (.func f) #[] #[])) args σ K u:=
 .of h (fun r w ⟨i,h1,q,l⟩=>by subst q;subst l;exact j i h1) (fun _ _ h=>h.elim)
def aD.ay {f:FuncId}{args:List AV}{v:AV}{K:AV→Prop}(h:∀i,ad P f args i (ah v i) No) (l:K v):aD P (.sc (.func (.func f) #[] #[])) args K:=
 ⟨v,fun i _ _ j=> .ay (h i) j,l⟩
def ad.wk {f:FuncId}{as:List AV}(j:List AV) {σ:AS}{R u:AV→AS→Prop}(h:ad P f j σ R u) (hl:as.length=j.length) (hw:∀i,i<j.length→AV.Wk P (as.getD i .any) (j.getD i .any)):ad P f as σ R u:=
 ⟨h.body,fun G w vals v q=>h.run G w vals v ⟨q.1.trans hl,fun i l=>hw i l _ _ (q.2 i (by omega))⟩⟩
def bo (Q:AQ):Prop:= ∀p s h σ,Q (.panic p) s σ→Q (.panic p) h σ
def bo.then {K:Fr→AS→Prop}{Q:AQ}(h:bo Q):bo (dF K Q):=h
def bo.block {i:Nat}{Q:AQ}(h:bo Q):bo (kz i Q):=h
def bo.body {P:Program}{rs:List ResultVar}{R i:AV→AS→Prop} :bo (uR P rs R i):=fun _ _ _ _ h=>h
def aq.iL {id:Nat}{l:List Oper}{Q:AQ}{s:Fr}{σ:AS}(hm:P.follows .mixedOrders=true) (t:bW)
 (i:dh l.toArray false true (Array.replicate l.length false) t=true) (hd:decide (t.depth≤l.length)=true)
 (j:bo Q) (h:bu P n l.toArray false Q t s σ):aq P n ds (.region id l.toArray true) Q s σ:=
 aq.draw hm false t (by simp) i hd j h
end Go.AW
namespace Go.AW
@[simp] def TN:IntKind.i64.bits=64:=rfl
@[simp] def TJ:IntKind.u64.bits=64:=rfl
@[simp] def TO:IntKind.i32.bits=32:=rfl
@[simp] def TK:IntKind.u32.bits=32:=rfl
@[simp] def TP:IntKind.i16.bits=16:=rfl
@[simp] def TM:IntKind.u16.bits=16:=rfl
@[simp] def UU:IntKind.i8.bits=8:=rfl
@[simp] def UT:IntKind.u8.bits=8:=rfl
def IE (n:Int):IntKind.u64.wrap n=n%18446744073709551616:=by simp[IntKind.wrap,IntKind.bits,IntKind.signed]
def Oo (n:Int):IntKind.u32.wrap n=n%4294967296:=by simp[IntKind.wrap,IntKind.bits,IntKind.signed]
def Bx (n:Int):IntKind.u8.wrap n=n%256:=by simp[IntKind.wrap,IntKind.bits,IntKind.signed]
def By (n:Int):IntKind.i64.wrap n=(n+9223372036854775808)%18446744073709551616-9223372036854775808:=by simp[IntKind.wrap,IntKind.bits,IntKind.signed];split<;>omega
@[simp] def RO:IntKind.i64.wrap 0=0:=by decide
@[simp] def RN:IntKind.i64.wrap 1=1:=by decide
@[simp] def RM:IntKind.i64.wrap 2=2:=by decide
@[simp] def RK:IntKind.i64.wrap 3=3:=by decide
@[simp] def RJ:IntKind.i64.wrap 4=4:=by decide
@[simp] def RH:IntKind.i64.wrap 5=5:=by decide
@[simp] def RG:IntKind.i64.wrap 6=6:=by decide
@[simp] def RF:IntKind.i64.wrap 8=8:=by decide
@[simp] def Q4:IntKind.i64.wrap 12=12:=by decide
@[simp] def Q0:IntKind.i64.wrap 16=16:=by decide
@[simp] def QZ:IntKind.i64.wrap 32=32:=by decide
@[simp] def QY:IntKind.i64.wrap 64=64:=by decide
@[simp] def RE:IntKind.u64.wrap 0=0:=by decide
@[simp] def RC:IntKind.u64.wrap 2=2:=by decide
@[simp] def RB:IntKind.u64.wrap 3=3:=by decide
def az {n:Int}(h1: -9223372036854775808≤n) (h:n<9223372036854775808):IntKind.i64.wrap n=n:=by rw[By];omega
def ng {n:Int}(h1:0≤n) (h:n<18446744073709551616):IntKind.u64.wrap n=n:=by rw[IE];omega
def ON {l:List UInt8}{i:Nat}(h:i<l.length):(l.map u8).getD i .any= .sc (.int .u8 (l.getD i 0).toNat):=by simp[getD_eq_getElem?_getD,h]
def oA {w:Nat}{a b:Int}(i:Nat) (h:0≤b) (F:b<2^i) {c:Int}(E:0≤c) (ha:a=2^i*c) (hw:a+b<2^w):Dz w a b=a+b:=by
 unfold Dz;obtain⟨u,rfl⟩:=Int.eq_ofNat_of_zero_le h;obtain⟨q,rfl⟩:=Int.eq_ofNat_of_zero_le E;have l:a=((2^i*q:Nat):Int):=by rw[ha];push_cast;rfl
 have j:u<2^i:=by exact_mod_cast F
 have v:2^i*q+u<2^w:=by rw[l]at hw;exact_mod_cast hw
 rw[l,BitVec.ofInt_natCast,BitVec.ofInt_natCast,BitVec.toNat_or,BitVec.toNat_ofNat,BitVec.toNat_ofNat,Nat.mod_eq_of_lt (by omega),Nat.mod_eq_of_lt (by omega),←Nat.two_pow_add_eq_or_of_lt j]
 push_cast
 rfl
def js {w:Nat}{a:Int}(i:Nat) (ha:0≤a) (hw:a<2^w) (l:i≤w):lr w a (2^i-1)=a%2^i:=by
 unfold lr;obtain⟨u,rfl⟩:=Int.eq_ofNat_of_zero_le ha;have j:0<2^i:=Nat.two_pow_pos i;have hle:2^i≤2^w:=Nat.pow_le_pow_right (by omega) l;have q:(2:Int)^i-1=((2^i-1:Nat):Int):=by rw[Int.natCast_sub j];push_cast;rfl
 have h:u<2^w:=by exact_mod_cast hw
 rw[q,BitVec.ofInt_natCast,BitVec.ofInt_natCast,BitVec.toNat_and,BitVec.toNat_ofNat,BitVec.toNat_ofNat,Nat.mod_eq_of_lt h,Nat.mod_eq_of_lt (by omega),Nat.and_two_pow_sub_one_eq_mod]
 push_cast
 rfl
def qf (w:Nat) (a b:Int):Dz w a b=Dz w b a:=by simp[Dz,BitVec.or_comm]
end Go.AW
namespace Go.AW
variable {P:Program} {n:Nat} {ds:List Deferred} {Q:AQ} {s:Fr} {σ:AS}
def ag.id {i:AV}{args:List AV}{K j:AV→AS→Prop}(h:ag P i args σ K j):ag P i args σ K j:=h
def aD.id {i:AV}{args:List AV}{K:AV→Prop}(h:aD P i args K):aD P i args K:=h
def cJ (v:AV) (A B:Prop):Prop:=match v with|.sc (.bool true)=>A|.sc (.bool false)=>B| _ =>False
@[simp ↓] def UN {A B:Prop} :cJ (.sc (.bool true)) A B=A:=rfl
@[simp ↓] def UO {A B:Prop} :cJ (.sc (.bool false)) A B=B:=rfl
@[congr] def OW {v i:AV}{A B:Prop}(h:v=i):cJ v A B=cJ i A B:=by rw[h]
def aq.fork {c:Operand}{x y:Code}(h:cJ (ev s c) (aq P n ds x Q s σ) (aq P n ds y Q s σ)):aq P n ds (.cond c x y) Q s σ:=by
 unfold cJ at h;split at h
 ·rename_i i;exact aq.cond i (fun _ =>h) (fun e=>by cases e)
 ·rename_i i;exact aq.cond i (fun e=>by cases e) (fun _ =>h)
 ·exact h.elim
def cJ.split {b:Bool}{A B:Prop}(h1:b=true→A) (h:b=false→B):cJ (.sc (.bool b)) A B:=by
 cases b
 ·exact h rfl
 ·exact h1 rfl
def bx.split {o:Oper}{K:Fr→AS→Prop}{b want:Bool}(h1:b=want→lE P n o s σ K Q) (i:b= !want→(match o.dst with|none=>True|some d=>d<n)∧K (s.put o.dst kT) σ):
 bx P n o s σ K Q (.sc (.bool b)) want:=by
 unfold bx iB yw Qm;by_cases h:b=want
 ·exact .inl ⟨by simp[h],h1 h⟩
 ·exact .inr ⟨by simp[h],i (by cases b<;>cases want<;>simp_all)⟩
def fG.split {f:AV}{as:List AV}{K:AV→Prop}{b want:Bool}(h1:b=want→aD P f as K) (i:b= !want→K kT):
 fG P f as K (.sc (.bool b)) want:=by
 unfold fG iB yw Qm;by_cases h:b=want
 ·exact .inl ⟨by simp[h],h1 h⟩
 ·exact .inr ⟨by simp[h],i (by cases b<;>cases want<;>simp_all)⟩
def DD {a b:Bool}(h:a=b):AV.Wk P (.sc (.bool a)) (.sc (.bool b)):=h ▸ Wk.refl _
def RP {k:IntKind}{a b:Int}(h:a=b):AV.Wk P (.sc (.int k a)) (.sc (.int k b)):=h ▸ Wk.refl _
def ff {a b:AV}(h:a=b):AV.Wk P a b:=h ▸ Wk.refl _
def jf {i σ:AS}{j n m:Nat}(h:AS.le i σ) (e:n=m):AS.le (i.set j (.tok n)) (σ.set j (.tok m)):=by subst e;exact Av h
def lu {a b u q:AV}(h1:AV.Wk P a u) (v:AV.Wk P b q):AV.Wk P (.agg [a,b]) (.agg [u,q]):=by
 intro G x h;cases h with
 |agg vs l h=>
  refine .agg vs l fun i j=> ?_;have:=h i j
  match i,j with
  |0,_ =>exact h1 _ _ this
  |1,_ =>exact v _ _ this
def ad.told {f:FuncId}{as:List AV}{σ j:AS}{v i:AV}(h:ad P f as σ (ah v j) No) (hw:AV.Wk P v i):ad P f as σ (ah i j) No:=
 ⟨h.body,fun G w vals q l=>(h.run G w vals q l).mono fun e w' he=>by
  unfold kE at he⊢;split at he
  ·obtain⟨G',u,r,g1,g2,g3,rfl,rfl⟩:=he;exact⟨G',_,i,g1,g2,hw _ _ g3,rfl,rfl⟩
  ·exact he
  ·exact he⟩
@[simp] def Wl (l:List UInt8):(⟨l.toArray⟩:ByteArray).size=l.length:=by simp[ByteArray.size]
def gQ {α:Type}(l:List α) {i:Nat}(h:i<l.length):∃r,l[i]? =some r∧l.drop i=r::l.drop (i+1)∧r∈l∧l.take (i+1)=l.take i++ [r]:=
 ⟨l[i],getElem?_eq_getElem h,drop_eq_getElem_cons h,getElem_mem h,take_succ_eq_append_getElem h⟩
def aS (n:Int):AV:= .sc (.int .i64 n)
def aF (n:Int):aS n= .sc (.int .i64 n):=rfl
def gW {i:Nat}(h:i<4000000000000000000):IntKind.i64.wrap ((i:Int)+1)=((i+1:Nat):Int):=by rw[az (by omega) (by omega)];simp
end Go.AW
namespace Go.AW
variable {P:Program} {n:Nat} {ds:List Deferred} {Q:AQ} {s:Fr} {σ:AS}
def ia (P:Program) (n:Nat) (ds:List Deferred) (Q:AQ) (o:Oper) (s:Fr) (σ:AS) (K:Fr→AS→Prop):Prop:=
 ∀(G0 G:Gh) (a:Act) (w:World),G0.Le G→oS P G n ds s σ a w→ ∀next:Act→World→Prop,
  (∀G' i h j w',G0.Le G'→oS P G' n ds i h j w'→K i h→next j w')→o.wp P a w next (LQ P n ds Q G0)
def ia.mZ {o:Oper}{K:Fr→AS→Prop}(hd:match o.dst with|none=>True|some d=>d<n)
 (h:∀(G:Gh) (a:Act) (w:World),oS P G n ds s σ a w→Out P G (fun v j=>K (s.put o.dst v) j) (fun v j=>Q (.panic v) s j) ((execOp a.eval o).run P w)):ia P n ds Q o s σ K:=by
 intro G0 G a w hle l next F
 have q:∀t,o.dst=some t→t<n:=by intro t ht;rw[ht]at hd;exact hd
 have:=h G a w l;unfold Oper.wp;generalize (execOp a.eval o).run P w=r at this⊢;cases r with
 |ok H w'=>
  cases H<;>simp only[Out]at this<;>first|exact this.elim|skip
  ·obtain⟨G',j,E,g1,g2,g3,u⟩:=this;exact F G' _ _ _ _ (hle.trans g1) (l.put g1 g2 o.dst q g3) u
  ·obtain⟨G',j,E,g1,g2,g3,u⟩:=this;exact F G' _ _ _ _ (hle.trans g1) (l.put g1 g2 o.dst q g3) u
 |halt x w'=>
  cases x<;>simp only[Out]at this<;>first|exact this.elim|skip
  obtain⟨G',j,E,g1,g2,g3,u⟩:=this;exact⟨rfl,rfl,G',s,j,E,hle.trans g1,⟨g2,l.size,l.ds,fun i=>(l.rep i).mono g1⟩,g3,u⟩
def bq (P:Program) (n:Nat) (ds:List Deferred) (ops:Array Oper) (Q:AQ):List Oper→Fr→AS→Prop
 |[],s,σ=>Q .normal s σ
 |o::r,s,σ=>(o.guard=none∧ia P n ds Q o s σ (bq P n ds ops Q r))∨eL P n ops o s σ (bq P n ds ops Q r) Q
def bq.sp {ops:Array Oper}{o:Oper}{r:List Oper}(i:o.guard=none) (h:ia P n ds Q o s σ (bq P n ds ops Q r)):bq P n ds ops Q (o::r) s σ:= .inl ⟨i,h⟩
def bq.pre {ops:Array Oper} :∀(l r:List Oper) (s:Fr) (σ:AS),jZ P n ops (dF (bq P n ds ops Q r) Q) l s σ→bq P n ds ops Q (l++r) s σ:=by
 intro l;induction l with
 |nil=>intro r s σ h;exact h
 |cons o l j=>intro r s σ h;refine .inr ?_;have i:eL P n ops o s σ (jZ P n ops (dF (bq P n ds ops Q r) Q) l) (dF (bq P n ds ops Q r) Q):=h;rw[lS]at i⊢;exact sm (fun v u q=>j r _ _ q) (fun _ _ h=>h) i
def bq.rest {ops:Array Oper}{r:List Oper}(h:jZ P n ops Q r s σ):bq P n ds ops Q r s σ:=by
 have e:dF (bq P n ds ops Q []) Q=Q:=by funext e s σ;cases e<;>rfl
 have:=bq.pre (ds:=ds) (Q:=Q) (ops:=ops) r [] s σ (by rw[e];exact h);simpa using this
def bq.first {ops:Array Oper}{l:List Oper}(k:Nat) (h:jZ P n ops (dF (bq P n ds ops Q (l.drop k)) Q) (l.take k) s σ):bq P n ds ops Q l s σ:=by have:=bq.pre (ds:=ds) (Q:=Q) (ops:=ops) (l.take k) (l.drop k) s σ h;rwa [take_append_drop]at this
def Mo {ops:Array Oper}{G0:Gh} :∀(l:List Oper) (G:Gh) (s:Fr) (σ:AS) (a:Act) (w:World),bq P n ds ops Q l s σ→G0.Le G→oS P G n ds s σ a w→
 wpList P ops (LQ P n ds Q G0) l a w:=by
 intro l;induction l with
 |nil=>intro G s σ a w h hle i;exact⟨G,s,σ,hle,i,h⟩
 |cons o rest F=>
  intro G s σ a w h hle i;unfold wpList;rcases h with⟨H,h⟩|h
  ·have hw:Region.wanted o (yielded ops a.tmps)=true:=by simp[Region.wanted,H]
   rw[if_pos hw];exact .inl (h G0 G a w hle i _ (fun G' q j E w' h1 v u=>F G' q j E w' u h1 v))
  ·have:=oG o h hle i (next:=wpList P ops (LQ P n ds Q G0) rest) (fun G' q j E w' h1 v u=>F G' q j E w' u h1 v);by_cases hw:Region.wanted o (yielded ops a.tmps)=true
   ·rw[if_pos hw]at this⊢;exact .inl this
   ·rw[if_neg hw]at this⊢;exact this
def aq.eJ {id:Nat}{l:List Oper}(h:bq P n ds l.toArray Q l s σ):aq P n ds (.region id l.toArray false) Q s σ:=
 fun G0 G a w h1 i=>wp_region_lit (Mo l G s σ a w h h1 i)
@[congr] def Pu {ops:Array Oper}{l:List Oper}{s i:Fr}{σ h:AS}(h1:s=i) (j:σ=h):bq P n ds ops Q l s σ=bq P n ds ops Q l i h:=by subst h1 j;rfl
def aB (l:List AV):List AV:=l.flatMap (·.cells)
@[simp] def Rq:aB []= []:=rfl
@[simp] def jU (v:AV) (r:List AV):aB (v::r)=v.cells++aB r:=rfl
def gx {m:Nat} :∀(l:List AV),(∀v∈l,v.cells.length=m)→(aB l).length=l.length*m∧ ∀i j,i<l.length→j<m→(aB l).getD (i*m+j) .any=(l.getD i .any).cells.getD j .any:=by
 intro l;induction l with
 |nil=>intro _;exact⟨by simp,fun i j q=>by simp at q⟩
 |cons v r u=>
  intro h;obtain⟨h1,F⟩:=u fun v w=>h v (by simp[w]);have h0:=h v (by simp);refine⟨by simp[h1,h0,Nat.add_mul];omega,fun i j q E=> ?_⟩;cases i with
  |zero=>simp only[jU];rw[aM _ _ _ (by omega)];simp
  |succ i=>
   simp only[jU];have:(i+1)*m+j=v.cells.length+(i*m+j):=by rw[h0,Nat.add_mul];omega
   rw[this,aU _ _ _ (by omega)];have e:v.cells.length+(i*m+j)-v.cells.length=i*m+j:=by omega
   rw[e,F i j (by simpa using q) E];simp
def bF (P:Program) (σ:AS) (t:TypeId) (len:Nat) (parts:List (Nat×AV)) (K:AV→AS→Prop):Prop:=
 match cr P t with
 |some e=>parts.length=len∧P.cellsOf e≠0∧len*P.cellsOf e≤2^24∧(ax P e).laid=true∧(ax P e).cells.length=P.cellsOf e∧g8 (P.cellsOf e) 0 parts=true∧
  ∀id,σ id=none→K (.fH id 0 len len) (σ.set id (.cells e (aB (parts.map (·.2)))))
 |none=>False
def E3 {m:Nat} :∀(l:List (Nat×AV)) (k:Nat),g8 m k l=true→ ∀v∈l.map (·.2),v.cells.length=m:=by
 intro l;induction l with
 |nil=>intro k _ v h;simp at h
 |cons p r j=>
  intro k i v h;obtain⟨q,x⟩:=p;simp only[g8,Bool.and_eq_true,beq_iff_eq]at i;simp only[map_cons,mem_cons]at h;rcases h with rfl|h
  ·exact i.1.2
  ·exact j (k+1) i.2 v h
def nS {G:Gh}{w:World}{K Pn:AV→AS→Prop}(H:Inv P G σ w) {t:TypeId}{len:Nat}{parts:Array (Nat×Operand)}{s:Fr}{ρ:Operand→Value}(hρ:∀x,aV P G (ev s x) (ρ x))
 (h:bF P σ t len (parts.toList.map fun p=>(p.1,ev s p.2)) K):
 Out P G K Pn (((do pure (Next.value (←Instr.buildSlice t len (parts.map fun(i,x)=>(i,ρ x))))):Sem Next).run P w):=by
 unfold bF at h;split at h
 ·rename_i e he;obtain⟨h1,h2,h3,h4,h5,h6,h7⟩:=h;have hu:=eP he;obtain⟨it,z,q,hz,al⟩:=dq h4;have M:it.size=P.cellsOf e:=by simp[Program.cellsOf,q]
  have L:(parts.map fun(i,x)=>(i,ρ x)).toList=parts.toList.map fun p=>(p.1,ρ p.2):=by simp
  have hlen:parts.toList.length=len:=by simpa using h1
  let zero:Array Value:=if len*P.cellsOf e=0 then #[]else z.cells
  let init:Array Value:=(Array.range (len*P.cellsOf e)).map (zero[· %zero.size]!)
  obtain⟨J,g1,g2,_,g4⟩:=xp (P:=P) (G:=G) (e:=e) (parts.toList.map fun p=>(p.1,ev s p.2)) (parts.toList.map fun p=>(p.1,ρ p.2)) 0 (P.cellsOf e) init (by simp) (fun i H=>by simp at H;simp[getD_eq_getElem?_getD,H];exact hρ _) h6 (by simp at hlen;simp[init,hlen]) (fun c hc=>by omega);have l:J.size=len*P.cellsOf e:=by rw[g2];simp[init]
  have v:(Instr.buildSlice t len (parts.map fun(i,x)=>(i,ρ x))).run P w= .ok (.slice (some ⟨w.heap.size,0,none⟩) len len) (w.alloc (.cells J e)):=by
   have u:¬(len*P.cellsOf e>2^24):=by omega
   have j:Instr.fill (fun i=>some (i*P.cellsOf e,P.cellsOf e)) ((Array.range (len*P.cellsOf e)).map (zero[· %zero.size]!)) (parts.map fun(i,x)=>(i,ρ x)).toList=some J:=by rw[L];exact g1
   simp only[Instr.buildSlice,Sem.run_bind,run_underlying hu,Result.andThen,sizeOf,run_typeInfo w q,Sem.run_pure,M,u,if_false];by_cases h0:len*P.cellsOf e=0
   ·simp only[zero,h0,if_true]at j;simp[h0,newRow];simp at j;simp[j,Result.andThen]
   ·simp only[zero,h0,if_false]at j;simp only[h0,if_false,Sem.run_bind,zeroValue,run_typeInfo w q,hz,Result.andThen,Sem.run_pure];rw[j];simp[newRow,Result.andThen]
  have F:∀k,k<len*P.cellsOf e→k/P.cellsOf e<len∧k%P.cellsOf e<P.cellsOf e∧(k/P.cellsOf e)*P.cellsOf e+k%P.cellsOf e=k:=fun k I=>
   ⟨Nat.div_lt_of_lt_mul (by rw[Nat.mul_comm];exact I),Nat.mod_lt _ (by omega),by rw[Nat.mul_comm];exact Nat.div_add_mod k _⟩
  obtain⟨f1,f2⟩:=gx (m:=P.cellsOf e) ((parts.toList.map fun p=>(p.1,ev s p.2)).map (·.2)) (E3 _ 0 h6);have O:((parts.toList.map fun p=>(p.1,ev s p.2)).map (·.2)).length=len:=by simpa using h1
  rw[O]at f1 f2;obtain⟨G',hle,E,hinv⟩:=H.lZ e J (aB ((parts.toList.map fun p=>(p.1,ev s p.2)).map (·.2))) (by rw[l,f1]) (fun k I=>by
   rw[f1]at I;obtain⟨k1,X,V⟩:=F k I;have Y:=f2 _ _ k1 X;rw[V]at Y;rw[Y];have:=g4 (k/P.cellsOf e) (k%P.cellsOf e) (by simp at hlen⊢;omega) X;rw[Nat.zero_add,V]at this;refine⟨?_,this.2⟩;have h9:=this.1;have T:k/P.cellsOf e<(parts.toList.map fun p=>(p.1,ev s p.2)).length:=by simp at hlen⊢;omega
   have e9:((parts.toList.map fun p=>(p.1,ev s p.2)).map (·.2)).getD (k/P.cellsOf e) AV.any=((parts.toList.map fun p=>(p.1,ev s p.2)).getD (k/P.cellsOf e) (0,AV.any)).2:=by simp only[getD_eq_getElem?_getD,getElem?_map,getElem?_eq_getElem T,Option.map_some,Option.getD_some]
   rw[e9];exact h9)
  exact Out.value v hle hinv (.fH E) (h7 _ H.fresh)
 ·exact h.elim
def ia.lX {d t m:Nat}{ps:Array (Nat×Operand)}{ty:TypeId}{pos:String}{af:Array Edge}{g:Option (Nat×Bool)}{K:Fr→AS→Prop}(hd:d<n)
 (h:bF P σ t m (ps.toList.map fun p=>(p.1,ev s p.2)) (fun v j=>K (s.put (some d) v) j)):ia P n ds Q ⟨some d,.buildSlice t m ps,ty,pos,af,g⟩ s σ K:=
 ia.mZ hd fun G a w i=>nS i.inv i.ev h
def aq.freeze {c:Code}(i id:Nat) {e:TypeId}{m:Nat}(es:List AV) {cs:List AV}(hs:s i= .fH id 0 m m) (h0:σ id=none) (hm:es.length=m) (hl:∀v∈es,v.cells.length=P.cellsOf e) (Y:cs=aB es)
 (h:aq P n ds c Q (s.put (some i) (.ao e es .full false)) σ):aq P n ds c Q s (σ.set id (.cells e cs)):=by
 subst Y hm;intro G0 G a w h1 T;have l:=T.inv;have F:=T.rep i;rw[hs]at F;obtain⟨b,vs,k1,k2,k3,k4⟩:=l.cells id e (aB es) (by simp[AS.set]);generalize hv:a.tmps.getD i undef=v at F;cases F with
 |fH hb=>
  rename_i b';rw[k1]at hb;obtain rfl:=Option.some.inj hb;obtain⟨f1,f2⟩:=gx (m:=P.cellsOf e) es hl;have H:∀o,G.mem b o=none:=(l.dm id b k1).2.2 e (aB es) (by simp[AS.set]);have hle:G.Le (G.jQ b 0 (aB es).length (fun k=>vs.getD k undef)):=by
   refine⟨rfl,rfl,fun b' o v em=> ?_,fun _ _ e=>e,fun t r e=>⟨r,e,rfl,.inl rfl⟩⟩;rw[Gh.eS]
   ·exact em
   ·rintro⟨rfl,_⟩;rw[H o]at em;cases em
  have E:∀j x,σ j=some x→j≠id∧(σ.set id (.cells e (aB es))) j=some x:=by
   intro j x u;have:j≠id:=by intro e';subst e';rw[h0]at u;cases u
   exact⟨this,by simp[AS.set,this,u]⟩
  refine h G0 _ a w (h1.trans hle) ⟨?_,T.size,T.ds,fun j=> ?_⟩
  ·refine⟨l.below,l.base,?_,l.top,?_,l.fA,?_,?_,?_,?_,?_⟩
   ·intro b' o v em;by_cases Y:b'=b∧0≤o∧o<0+(aB es).length
    ·obtain⟨rfl,h3,h4⟩:=Y;rw[Gh.lh h3 h4]at em;obtain rfl:=Option.some.inj em;have ho:o<vs.size:=by omega
     refine⟨?_,(k4 o (by omega)).2⟩;simp[World.cell?,k2,ho]
    ·rw[Gh.eS Y]at em;exact l.mem b' o v em
   ·intro j c u;have:=l.dm j c u;refine⟨this.1,this.2.1,fun ty cs' hn o=> ?_⟩;obtain⟨ar,M⟩:=E j _ hn;have a2:c≠b:=fun e'=>ar (l.fA j id b (e' ▸ u) k1);rw[Gh.eS (fun hh=>a2 hh.1)];exact this.2.2 ty cs' M o
   ·intro j ty cs' u;obtain⟨c,ac,L,J,I,V⟩:=l.cells j ty cs' (E j _ u).2;exact⟨c,ac,L,J,I,fun k O=>⟨(V k O).1.mono hle,(V k O).2⟩⟩
   ·intro j a3 u;obtain⟨c,ms,cl,L,J,I,V⟩:=l.maps j a3 (E j _ u).2;refine⟨c,ms,cl,L,J,I,fun k O=> ?_⟩;obtain⟨q,q1,q2,q3⟩:=V k O;exact⟨q,q1,q2.mono hle,q3.mono hle⟩
   ·intro j s' p u;exact l.dQ j s' p (E j _ u).2
   ·intro j m u;exact l.tok j m (E j _ u).2
   ·intro t r et;obtain⟨L,J,I⟩:=l.own t r et;refine⟨L,J,fun c o ea k a0 av=> ?_⟩;obtain⟨q1,q2,q3,q4,q5,q6,q7⟩:=I c o ea k a0 av;refine⟨q1,q2,?_,q4,q5,q6,q7⟩;rw[Gh.eS (fun hh=>q4 id (by rw[k1,hh.1]))];exact q3
  ·by_cases X:j=i
   ·subst X;rw[mz,if_pos rfl,hv];have hlen:(aB es).length=es.length*P.cellsOf e:=f1;refine aV.ao (fun k=>vs.getD k undef) (fun i l=>hl _ ?_) (fun k O=> ?_) (fun i j l X=> ?_) (Nat.le_refl _) ⟨_,rfl⟩
    ·rw[getD_eq_getElem?_getD,getElem?_eq_getElem l];exact getElem_mem l
    ·rw[Gh.lh (by omega) (by omega)];simp
    ·have:=(k4 (i*P.cellsOf e+j) (by
      rw[hlen]
      calc i*P.cellsOf e+j<i*P.cellsOf e+P.cellsOf e:=by omega
       _ =(i+1)*P.cellsOf e:=by rw[Nat.add_mul];omega
       _ ≤es.length*P.cellsOf e:=Nat.mul_le_mul_right _ l)).1
     rw[f2 i j l X]at this;exact this.mono hle
   ·rw[mz,if_neg X];exact(T.rep j).mono hle
def Inv.s8 {G:Gh}{w:World}(l:Inv P G σ w) {id b:Nat}{ty:TypeId}{cs cs':List AV}{vs:Array Value}(E:σ id=some (.cells ty cs)) (F:G.inj id=some b) (hw:w.heap[b]? =some (.cells vs ty (0,0)))
 (hl:cs'.length=cs.length) (J:∀k,k<cs'.length→aV P G (cs'.getD k .any) (vs.getD k undef)):Inv P G (σ.set id (.cells ty cs')) w:=by
 have other:∀j,j≠id→(σ.set id (.cells ty cs')) j=σ j:=fun j h=>by simp[AS.set,h]
 refine { below:=l.below,base:=l.base,mem:=l.mem,top:=l.top,dm:=fun i b e=>⟨(l.dm i b e).1,(l.dm i b e).2.1,fun q u I=>by
  by_cases h:i=id
  ·subst h;exact(l.dm i b e).2.2 ty cs E
  ·exact(l.dm i b e).2.2 q u (by rw[←other i h];exact I)⟩,fA:=l.fA,own:=l.own,cells:= ?_,maps:= ?_,dQ:= ?_,tok:= ?_ }
 ·intro j q u e;by_cases h:j=id
  ·subst h;simp only[AS.set,if_true]at e;cases e;obtain⟨M,H,g1,g2,g3,L⟩:=l.cells j ty cs E;rw[F]at g1;cases g1;rw[hw]at g2;cases g2;exact⟨b,vs,F,hw,by omega,fun k v=>⟨J k v,(L k (by omega)).2⟩⟩
  ·exact l.cells j q u (by rw[←other j h];exact e)
 ·intro j es e;by_cases h:j=id
  ·subst h;simp[AS.set]at e
  ·exact l.maps j es (by rw[←other j h];exact e)
 ·intro j es p e;by_cases h:j=id
  ·subst h;simp[AS.set]at e;subst e;cases p
  ·exact l.dQ j es p (by rw[←other j h];exact e)
 ·intro j m e;by_cases h:j=id
  ·subst h;simp[AS.set]at e
  ·exact l.tok j m (by rw[←other j h];exact e)
def aq.r9 {c:Code}(id k:Nat) {ty:TypeId}{cs:List AV}(e:TypeId) (es:List AV) (nil:Bool) (F:σ id=some (.cells ty cs)) (M:k<cs.length)
 (i:cs.getD k .any= .ao e es .full nil∨(cs.getD k .any= .ai∧es= []∧nil=true))
 (h:∀J,σ J=none→aq P n ds c Q s ((σ.set id (.cells ty (cs.set k (.ao e es (.tok J) nil)))).set J (.tok es.length))):aq P n ds c Q s σ:=by
 intro G0 G a w h1 I;have H:=I.inv;obtain⟨b,vs,g1,g2,g3,T⟩:=H.cells id ty cs F;have Y:aV P G (.ao e es .full nil) (vs.getD k undef):=by
  have:=(T k M).1;rcases i with i|⟨i,rfl,rfl⟩
  ·rw[i]at this;exact this
  ·rw[i]at this;generalize vs.getD k undef=v at this⊢;cases this;exact .iP ⟨none,rfl⟩
 obtain⟨r,E,X,V⟩:=Y.fy H;have q:id≠G.top:=by intro e';subst e';rw[H.fresh]at F;cases F
 have L:(σ.set G.top (.tok es.length)) id=some (.cells ty cs):=by simp[AS.set,q,F]
 have l:=X.s8 (cs':=cs.set k (.ao e es (.tok G.top) nil)) L (E.inj _ _ g1) g2 (by simp) (fun j O=>by
  simp at O;by_cases u:j=k
  ·subst u;rw[getD_eq_getElem?_getD,getElem?_set_self M];exact V
  ·rw[getD_eq_getElem?_getD,getElem?_set_ne (fun e=>u e.symm),←getD_eq_getElem?_getD];exact((T j O).1).mono E)
 rw[AS.set_comm (fun e=>q e.symm)]at l;exact h G.top H.fresh G0 _ a w (h1.trans E) ⟨l,I.size,I.ds,fun j=>(I.rep j).mono E⟩
def Inv.freeze {G:Gh}{w:World}{id:Nat}{e:TypeId}{m:Nat}{es:List AV}(h:Inv P G (σ.set id (.cells e (aB es))) w) (h0:σ id=none) (hm:es.length=m) (hl:∀v∈es,v.cells.length=P.cellsOf e):
 ∃G',G.Le G'∧Inv P G' σ w∧ ∀y,aV P G (.fH id 0 m m) y→aV P G' (.ao e es .full false) y:=by
 subst hm;obtain⟨b,vs,k1,k2,k3,k4⟩:=h.cells id e (aB es) (by simp[AS.set]);obtain⟨f1,f2⟩:=gx (m:=P.cellsOf e) es hl;have E:∀o,G.mem b o=none:=(h.dm id b k1).2.2 e (aB es) (by simp[AS.set]);have hle:G.Le (G.jQ b 0 (aB es).length (fun k=>vs.getD k undef)):=by
  refine⟨rfl,rfl,fun b' o v em=> ?_,fun _ _ e=>e,fun t r e=>⟨r,e,rfl,.inl rfl⟩⟩;rw[Gh.eS]
  ·exact em
  ·rintro⟨rfl,_⟩;rw[E o]at em;cases em
 have u:∀j x,σ j=some x→j≠id∧(σ.set id (.cells e (aB es))) j=some x:=by
  intro j x l;have:j≠id:=by intro e';subst e';rw[h0]at l;cases l
  exact⟨this,by simp[AS.set,this,l]⟩
 refine⟨_,hle,⟨h.below,h.base,?_,h.top,?_,h.fA,?_,?_,?_,?_,?_⟩,?_⟩
 ·intro b' o v em;by_cases hc:b'=b∧0≤o∧o<0+(aB es).length
  ·obtain⟨rfl,h3,h4⟩:=hc;rw[Gh.lh h3 h4]at em;obtain rfl:=Option.some.inj em;have ho:o<vs.size:=by omega
   refine⟨?_,(k4 o (by omega)).2⟩;simp[World.cell?,k2,ho]
  ·rw[Gh.eS hc]at em;exact h.mem b' o v em
 ·intro j c l;have:=h.dm j c l;refine⟨this.1,this.2.1,fun ty cs' hn o=> ?_⟩;obtain⟨Y,J⟩:=u j _ hn;have am:c≠b:=fun e'=>Y (h.fA j id b (e' ▸ l) k1);rw[Gh.eS (fun hh=>am hh.1)];exact this.2.2 ty cs' J o
 ·intro j ty cs' l;obtain⟨c,O,I,H,F,M⟩:=h.cells j ty cs' (u j _ l).2;exact⟨c,O,I,H,F,fun k L=>⟨(M k L).1.mono hle,(M k L).2⟩⟩
 ·intro j ap l;obtain⟨c,ms,cl,I,H,F,M⟩:=h.maps j ap (u j _ l).2;refine⟨c,ms,cl,I,H,F,fun k L=> ?_⟩;obtain⟨q,X,V,T⟩:=M k L;exact⟨q,X,V.mono hle,T.mono hle⟩
 ·intro j s' p l;exact h.dQ j s' p (u j _ l).2
 ·intro j m l;exact h.tok j m (u j _ l).2
 ·intro t r et;obtain⟨I,H,F⟩:=h.own t r et;refine⟨I,H,fun c o ea k ac ab=> ?_⟩;obtain⟨X,V,T,q4,q5,q6,q7⟩:=F c o ea k ac ab;refine⟨X,V,?_,q4,q5,q6,q7⟩;rw[Gh.eS (fun hh=>q4 id (by rw[k1,hh.1]))];exact T
 ·intro y hy;cases hy with
  |fH hb=>
   rw[k1]at hb;obtain rfl:=Option.some.inj hb;have hlen:(aB es).length=es.length*P.cellsOf e:=f1;refine aV.ao (fun k=>vs.getD k undef) (fun i h=>hl _ ?_) (fun k L=> ?_) (fun i j h hj=> ?_) (Nat.le_refl _) ⟨_,rfl⟩
   ·rw[getD_eq_getElem?_getD,getElem?_eq_getElem h];exact getElem_mem h
   ·rw[Gh.lh (by omega) (by omega)];simp
   ·have:=(k4 (i*P.cellsOf e+j) (by
     rw[hlen]
     calc i*P.cellsOf e+j<i*P.cellsOf e+P.cellsOf e:=by omega
      _ =(i+1)*P.cellsOf e:=by rw[Nat.add_mul];omega
      _ ≤es.length*P.cellsOf e:=Nat.mul_le_mul_right _ h)).1
    rw[f2 i j h hj]at this;exact this.mono hle
def aq.Om {c:Code}(id:Nat) {ty:TypeId}{cs:List AV}(cs':List AV) (l:σ id=some (.cells ty cs)) (hl:cs'.length=cs.length) (q:∀k,k<cs'.length→AV.Wk P (cs.getD k .any) (cs'.getD k .any))
 (h:aq P n ds c Q s (σ.set id (.cells ty cs'))):aq P n ds c Q s σ:=by
 intro G0 G a w h1 i;obtain⟨b,vs,g1,g2,g3,u⟩:=i.inv.cells id ty cs l;exact h G0 G a w h1 ⟨i.inv.s8 l g1 g2 hl (fun k j=>q k j _ _ (u k (by omega)).1),i.size,i.ds,i.rep⟩
def Inv.marked {G:Gh}{w:World}{b n:Nat}{vs:Array Value}{e:TypeId}(h:Inv P G σ w) (hw:w.heap[b]? =some (.cells vs e (0,0))) (hB:G.B≤b) (hσ:∀i ty cs,σ i=some (.cells ty cs)→G.inj i≠some b)
 (I:∀t r c o,G.own t=some r→r.a=some (c,o)→r.len*P.cellsOf r.yc<r.cap*P.cellsOf r.yc→c≠b):
 Inv P G σ { w with heap:=w.heap.setIfInBounds b (.cells vs e (n,n+1)) } :=by
 have T:=dP hw;have other:∀k,k≠b→(w.heap.setIfInBounds b (.cells vs e (n,n+1)))[k]? =w.heap[k]? :=fun k hk=>Array.getElem?_setIfInBounds_ne (fun e=>hk e.symm);have same:(w.heap.setIfInBounds b (.cells vs e (n,n+1)))[b]? =some (.cells vs e (n,n+1)):=by simp[T]
 refine⟨⟨h.below.os,h.below.tape,h.below.output,by simpa using h.below.size,fun k hk=>by
  have V:k≠b:=by omega
  rw[show({ w with heap:=w.heap.setIfInBounds b (.cells vs e (n,n+1)) } :World).heap[k]? =(w.heap.setIfInBounds b (.cells vs e (n,n+1)))[k]? from rfl,other k V];exact h.below.block k hk⟩,h.base,?_,h.top,?_,h.fA,?_,?_,?_,h.tok,?_⟩
 ·intro L o v em;refine⟨?_,(h.mem L o v em).2⟩;have h1:=(h.mem L o v em).1;by_cases J:L=b
  ·subst J;simp only[World.cell?,hw]at h1;simp only[World.cell?,same];exact h1
  ·rw[World.cell?_of_block (w:=w) (other L J)];exact h1
 ·intro j c E;have:=h.dm j c E;exact⟨this.1,by simpa using this.2.1,this.2.2⟩
 ·intro j F cs' E;obtain⟨c,M,k1,u,H⟩:=h.cells j F cs' E;have l:c≠b:=fun e'=>hσ j F cs' E (e' ▸ k1);exact⟨c,M,k1,by rw[other c l];exact u,H⟩
 ·intro j ac E;obtain⟨c,O,cl,k1,u,H⟩:=h.maps j ac E;have l:c≠b:=by rintro rfl;rw[hw]at u;cases u
  exact⟨c,O,cl,k1,by rw[other c l];exact u,H⟩
 ·intro j s p E;obtain⟨c,k1,u⟩:=h.dQ j s p E;refine⟨c,k1,u.jQ (fun _ _ h=>h) (fun o ho=> ?_) (fun m ms cl hm=>by rw[other m (fun e=>by subst e;rw[hw]at hm;cases hm)];exact hm)⟩;by_cases J:c=b
  ·subst J;exfalso;cases s with
   |lF q z=>have:w.heap[c]? =some (.stringIter q z):=u;rw[hw]at this;cases this
   |jD q z d=>obtain⟨m,since,seen,last,ms,clock,q1,_⟩:=u;rw[hw]at q1;cases q1
   |cells _ _ =>cases p
   |tok _ =>cases p
   |map _ =>cases p
  ·rw[other c J];exact ho
 ·intro t r et;obtain⟨k1,u,H⟩:=h.own t r et;refine⟨k1,u,fun c o ea k Y X=> ?_⟩;obtain⟨m1,m2,m3,m4,m5,m6,m7⟩:=H c o ea k Y X;have l:c≠b:=I t r c o et ea (by omega);refine⟨?_,?_,m3,m4,m5,by simpa using m6,m7⟩
  ·rw[World.cell?_of_block (w:=w) (other c l)];exact m1
  ·rw[World.frozen?_of_block (w:=w) (other c l)];exact m2
def ia.Tp {d src dst:Nat}{x:Operand}{ty:TypeId}{pos:String}{af:Array Edge}{g:Option (Nat×Bool)}{K:Fr→AS→Prop}(hd:d<n) (id:Nat) {e:TypeId}{m:Nat}(es:List AV) {cs:List AV}(h0:σ id=none)
 (hs:P.underlying src=some (.slice e)) (M:src=dst) (he:P.underlying e=some (.int .u8)) (hx:ev s x= .fH id 0 m m) (hm:es.length=m) (hl:∀v∈es,v.cells.length=P.cellsOf e) (hc:cs=aB es)
 (h:K (s.put (some d) (.ao e es .full false)) σ):ia P n ds Q ⟨some d,.convert src dst x,ty,pos,af,g⟩ s (σ.set id (.cells e cs)) K:=by
 subst hc M;refine ia.mZ hd fun G a w u=> ?_;have l:=u.ev x;rw[hx]at l;have hi:=u.inv;obtain⟨b,vs,k1,I,k3,k4⟩:=hi.cells id e (aB es) (by simp[AS.set]);obtain⟨G',hle,q,conv⟩:=hi.freeze h0 hm hl;have hv:=conv _ l
 generalize J:a.eval x=xv at l hv;cases l with
 |fH hb=>
  rw[k1]at hb;obtain rfl:=Option.some.inj hb;have j:=hle.inj _ _ k1;have T:=dP I;have O:Inv P G' σ { w with heap:=w.heap.setIfInBounds b (.cells vs e (vs.size,vs.size+1)) } :=by
   refine q.marked I (q.dm id b j).1 (fun i ty cs F Y=> ?_) (fun t r c o et ea hr X=> ?_)
   ·have:=q.fA i id b Y j;subst this;rw[h0]at F;cases F
   ·subst X;have:=(q.own t r et).2.2 c o ea (r.len*P.cellsOf r.yc) (Nat.le_refl _) hr;exact this.2.2.2.1 id j
  have H:(convert src src (.slice (some ⟨b,0,none⟩) m m)).run P w= .ok (.slice (some ⟨b,0,none⟩) m m) { w with heap:=w.heap.setIfInBounds b (.cells vs e (vs.size,vs.size+1)) } :=by
   have L:w.shape? b=some (e,vs.size):=by simp[World.shape?,I]
   have V:w.freeze ⟨b,vs.size,none⟩ 1= { w with heap:=w.heap.setIfInBounds b (.cells vs e (vs.size,vs.size+1)) } :=by
    unfold World.freeze;rw[if_neg (by decide)];have hg:w.heap[b]= .cells vs e (0,0):=by have:=I;rw[Array.getElem?_eq_getElem T]at this;exact Option.some.inj this
    congr 1;apply Array.ext
    ·simp
    ·intro i h1 h2;by_cases E:b=i
     ·subst E;simp[Array.getElem_modify,hg]
     ·rw[Array.getElem_modify,if_neg E];exact(Array.getElem_setIfInBounds_ne (by simpa using h1) E).symm
   simp[convert,run_underlying hs,run_underlying he,markStringish,shape,freeze,Sem.run_bind,Result.andThen,Sem.run,L,V]
  show Out P G _ _ (((do pure (Next.value (←convert src src (a.eval x)))):Sem Next).run P w);rw[J];exact Out.value H hle O hv h
end Go.AW
