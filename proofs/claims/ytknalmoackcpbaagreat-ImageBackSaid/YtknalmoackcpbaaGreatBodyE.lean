/- Own. -/
import Derived.Test.YtknalmoackcpbaaGreatLd6
set_option maxRecDepth 100000
set_option maxHeartbeats 3200000
set_option linter.all false
namespace Go.Proofs.YtknalmoackcpbaaGreat
namespace Bd
open Go Go.AW
theorem p9 {b:By}{a n:Nat}{e:Int}(h:iA b a n= .error e):e≠0:=by have:=(Ck h).2;omega
theorem qO {b:By}{a:Nat}{c e:Int}(h:fH b a c= .error e):e≠0:=by
 rcases yZ h with h|⟨rfl,_⟩
 ·exact p9 h
 ·omega
theorem y5 {b:By}{a:Nat}{n e:Int}(h:gY b a n= .error e):e≠0:=by
 unfold gY at h;split at h
 ·cases h;omega
 ·split at h<;>cases h;omega
theorem Cj {b:By}{e:Int} :∀ {k a:Nat},p8 b k a= .error e→e≠0:=by
 intro k;induction k with
 |zero=>intro a h;cases h
 |succ k g=>
  intro a h;simp only[p8]at h;cases h1:fH b a 0 with
  |error i=>rw[h1]at h;cases h;exact qO h1
  |ok x=>rw[h1]at h;exact g h
theorem Hb {b:By}{e:Int} :∀ {k a:Nat},jx b k a= .error e→e≠0:=by
 intro k;induction k with
 |zero=>intro a h;cases h
 |succ k i=>
  intro a h;simp only[jx]at h;cases h1:iA b a 2 with
  |error j=>rw[h1]at h;cases h;exact p9 h1
  |ok x=>
   rw[h1]at h;simp only at h;cases g:jx b k x.2 with
   |error j=>rw[g]at h;cases h;exact i g
   |ok y=>rw[g]at h;cases h
theorem Ha {b:By}{e:Int} :∀ {k a:Nat},jw b k a= .error e→e≠0:=by
 intro k;induction k with
 |zero=>intro a h;cases h
 |succ k i=>
  intro a h;simp only[jw]at h;cases h1:jx b 6 a with
  |error j=>rw[h1]at h;cases h;exact Hb h1
  |ok x=>
   rw[h1]at h;simp only at h;cases g:jw b k x.2 with
   |error j=>rw[g]at h;cases h;exact i g
   |ok y=>rw[g]at h;cases h
theorem Ao {b:By}{fr a:Nat}{e:Int}(h:eI b fr a= .error e):e≠0:=by
 unfold eI at h;split at h
 ·cases h;exact Cj (by assumption)
 split at h
 ·cases h;exact qO (by assumption)
 split at h
 ·cases h;exact p9 (by assumption)
 split at h
 ·cases h;omega
 split at h
 ·cases h;exact qO (by assumption)
 split at h
 ·cases h;exact qO (by assumption)
 exact Ha h
theorem He {b:By}{fr:Nat}{e:Int}(h:iB b fr= .error e):e≠0:=by
 unfold iB at h;split at h
 ·cases h;exact p9 (by assumption)
 split at h
 ·split at h
  ·cases h;exact y5 (by assumption)
  ·cases h
 split at h
 ·cases h;omega
 split at h
 ·cases h;exact Cj (by assumption)
 split at h
 ·cases h;exact p9 (by assumption)
 split at h
 ·cases h;exact y5 (by assumption)
 split at h
 ·split at h
  ·cases h;exact Ao (by assumption)
  ·cases h
 split at h
 ·cases h;omega
 ·cases h
end Bd
namespace Im
open Go Go.AW
abbrev lW:b7:=(.step 0 (.step 1 (.step 2 (.step 3 (.step 4 (.step 5 (.step 7 (.step 8 (.step 9 (.step 10 (.step 11 (.step 13 (.read 12 (.alt 6 (.alt 14 (.step 15 (.step 16 (.alt 17 .done .none))) .none) (.alt 14 (.read 6 (.step 15 (.step 16 (.alt 17 .done .none)))) .none)))))))))))))))
theorem bk (S:List Nat):aH Tryz.prog [(10,lW),(29,(.step 0 (.step 1 (.step 2 (.step 3 (.read 4 (.read 5 (.step 6 (.alt 7 (.step 8 (.step 9 (.alt 10 .done .none))) .none)))))))))] S:=mixed
open Rg (Cl ic aW ed cG gw)
open Bd (R6 dz s8 cH cE fD)
open Cd (oO eW kO)
variable {k:LK} {e:LE} {d:LD} {B τ:AS}
def rE (nm nf:Int) (x:db):Int:=if oO x.op=6 then nm else if oO x.op=7 then nf else 1099511627776
def zY (sp:List Ty) (nm nf:Int) (i:Nat) (x:db):Except iY db:=
 if oO x.op=8 then cM (nu sp x.arg i) fun t=> .ok ⟨x.op,0,t⟩ else
 dj (decide (oO x.op=2)||decide (x.arg<rE nm nf x)) 5 2 i (.ok x)
def pV (sp:List Ty) (nm nf:Int) (i:Nat):List db→List db→Except iY (List db)
 |acc,[]=> .ok acc
 |acc,x::xs=>cM (zY sp nm nf i x) fun y=>pV sp nm nf i (acc++ [y]) xs
def Jx (sp:List Ty) (P:List Int) (i:Nat) (r:R6):Except iY Cl:=
 match gm P r with
 |none=> .error (mF 12 2 i)
 |some c=>if c.k=1 then cM (nu sp r.ex i) fun t=> .ok { c with a:=t.kind,b:=t.index,c:=t.bt,r:=t.ref }
  else if c.k≠2 then dj (decide (r.ex=0)) 2 2 i (.ok c)else .ok c
def pr (sp:List Ty) (P:List Int) (i:Nat):List Cl→List R6→Except iY (List Cl)
 |acc,[]=> .ok acc
 |acc,r::rs=>cM (Jx sp P i r) fun c=>pr sp P i (acc++ [c]) rs
def zZ (sp:List Ty) (i:Nat) (P:List Int) (rs:List R6) (l:List db):Except iY (List db×List Cl):=
 cM (pr sp P i [] rs) fun cs=>dj (decide ((ed (cG l.length) gw cs).2=0)) (ed (cG l.length) gw cs).2 2 i (.ok (l,cs))
def rL (C:By) (sp:List Ty) (nm nf:Int) (g:Int) (i:Nat):Except iY (List db×List Cl):=
 if (fD C g).2.2≠0 then .error ((fD C g).2.2,4,g)else
 dj (decide ((kO (fD C g).1.1).2.2=0)) (kO (fD C g).1.1).2.2 2 i
  (cM (pV sp nm nf i [] (kO (fD C g).1.1).1.1) fun l=>zZ sp i (kO (fD C g).1.1).1.2 (fD C g).1.2 l)
theorem gb {b:By}{a:Nat}{n:Int}{l:By}{g:Nat}(h:Bd.gY b a n= .ok (l,g)):l≠ []∧l.length≤b.length:=by
 refine⟨Bd.sG h,?_⟩;unfold Bd.gY at h;split at h
 ·cases h
 ·split at h
  ·cases h;simp only[cy,List.length_take,List.length_drop];omega
  ·cases h
theorem Hd {b:By}{fr:Nat}{x:By×List R6}{a:Nat}(h:Bd.iB b fr= .ok (x,a)):x.1≠ []∧x.1.length≤b.length∧x.2.length≤6:=by
 unfold Bd.iB at h;split at h
 ·cases h
 ·split at h
  ·split at h
   ·cases h
   ·rename_i h1;cases h;exact⟨(gb h1).1,(gb h1).2,by simp⟩
  ·split at h
   ·cases h
   ·split at h
    ·cases h
    ·split at h
     ·cases h
     ·split at h
      ·cases h
      ·rename_i h1;split at h
       ·split at h
        ·cases h
        ·rename_i g;cases h;exact⟨(gb h1).1,(gb h1).2,(Bd.uS g).2⟩
       ·split at h
        ·cases h
        ·cases h;exact⟨(gb h1).1,(gb h1).2,by simp⟩
theorem IJ {b:By}{g:Int}(h:(fD b g).2.2=0):(fD b g).1.1≠ []∧(fD b g).1.1.length≤b.length∧(fD b g).1.2.length≤6:=by
 unfold fD at h⊢;split at h
 ·simp at h
 ·rename_i j;rw[if_neg j];cases i:Bd.iB b g.toNat with
  |error x=>rw[i]at h;exact absurd h (Bd.He i)
  |ok x=>obtain⟨x,a⟩:=x;exact Hd i
theorem Rn {A:AS}{bh h i:Nat}{m q t o c:bN}(h1:bh≠h) (u:((A.set bh m).set h t) i=none):AS.le ((A.set bh q).set h o) (((((A.set bh m).set h t).set i c).set h o).set bh q):=by
 intro j x g;by_cases n:j=bh
 ·subst n;rw[AS.ad _ _ h1,AS.aj]at g;rw[AS.aj];exact g
 ·rw[AS.ad _ _ n];by_cases l:j=h
  ·subst l;rw[AS.aj]at g⊢;exact g
  ·rw[AS.ad _ _ l,AS.ad _ _ n]at g;rw[AS.ad _ _ l];have v:j≠i:=by rintro rfl;rw[AS.ad _ _ l,AS.ad _ _ n,g]at u;cases u
   rw[AS.ad _ _ v,AS.ad _ _ l,AS.ad _ _ n];exact g
def Vs (k:LK) (e:LE) (d:LD) (B:AS) (bh:Nat) (c0:List AV) (v:List db×List Cl) (r:AV) (g:AS):Prop:=
 r= .bQ []∧LI k e d (B.set bh (.cells 53 (c0++ [.an 110 (v.1.map aJ) .aE (decide (v.1= [])),.an 158 (v.2.map ic) .aE (decide (v.2= []))]))) g
theorem LI.code (h:LI k e d B τ) (b4:Int) (i bh:Nat) (hi:i≤65535) (ho:d.sp.length≤100000) (a0 a1 a2 a3 Z U Q O M L:AV)
 (fw:B bh=some (.cells 53 [a0,a1,a2,a3,Z,U,Q,O,M,L,.ai,.ai])) (B0:AS) (gS:AS.le B0 B) (hM:B0 bh=none):
 aa Tryz.prog 172 [.ptr k.id 0,.ptr bh 0,.sc (.int .i64 b4),.sc (.int .i64 i)] τ
  (RL (rL e.C d.sp e.t2.length e.t1.length b4 i) (Vs k e d B bh [a0,a1,a2,a3,Z,U,Q,O,M,L])) (TL (rL e.C d.sp e.t2.length e.t1.length b4 i) B0):=by
 have hm:=fun a t r σ=>lu a t r σ;obtain⟨X,am⟩:∃X,rL e.C d.sp e.t2.length e.t1.length b4 i=X:=⟨_,rfl⟩;rw[am];unfold rL at am;have ew:=h.id;rw[b8]at ew;simp only[cx]at ew;have bv:∀ {f τ'},X= .error f→AS.le B0 τ'→ ∃σ',AS.le σ' τ'∧TL X B0 (pX f) σ':=fun {f τ'} hx hle=>⟨τ',lR _,_,hx,rfl,hle⟩;have im:∀ {f τ'},X= .error f→AS.le B τ'→ ∃σ',AS.le σ' τ'∧TL X B0 (pX f) σ':=fun {f τ'} hx hle=>bv hx (AS.le_trans gS hle);have c3:=fun σ=>Bd.Ki e.C .aE e.cn b4 h.e.cn (by have:=h.e.C;omega) σ;have f6:= @IJ e.C b4;have hC:=h.e.C;generalize fD e.C b4=rd at am c3 f6;obtain⟨⟨bc,rs⟩,lf,er⟩:=rd;simp only at am c3 f6;have hf:=fun x σ=>qN x 4 b4 σ;simp only[Bd.Pw,Bd.za]at c3;refine aa.ob Tryz.func172 ?_;by_cases ea:er=0
 ·rw[if_neg (by simpa using ea)]at am;obtain⟨hu,ll,li⟩:=f6 ea;subst ea;have hr:decide (bc= [])=false:=by simp[hu]
  rw[hr]at c3;refine gO (S:= [3]) bk @ew @c3 ?_;intro H cd;have h8:=h.own (b:= .cells 219 [.an 5 (bc.map u8) .aE false,.an 221 (rs.map dz) .aE (decide (rs= []))]) cd;have hK:B H=none:=h.mP cd;have k8:(B.set H (.cells 219 [.an 5 (bc.map u8) .aE false,.an 221 (rs.map dz) .aE (decide (rs= []))])) H=some (.cells 219 [.an 5 (bc.map u8) .aE false,.an 221 (rs.map dz) .aE (decide (rs= []))]):=AS.aj _ _ _;have f5:bh≠H:=nq fw hK;have fi:(B.set H (.cells 219 [.an 5 (bc.map u8) .aE false,.an 221 (rs.map dz) .aE (decide (rs= []))])) bh=some (.cells 53 [a0,a1,a2,a3,Z,U,Q,O,M,L,.ai,.ai]):=(AS.ad _ _ f5).trans fw;have eg:AS.le B (B.set H (.cells 219 [.an 5 (bc.map u8) .aE false,.an 221 (rs.map dz) .aE (decide (rs= []))])):=AS.ah (lR _) hK;generalize (B.set H (.cells 219 [.an 5 (bc.map u8) .aE false,.an 221 (rs.map dz) .aE (decide (rs= []))]))=A at*;generalize (τ.set H (.cells 219 [.an 5 (bc.map u8) .aE false,.an 221 (rs.map dz) .aE (decide (rs= []))]))=τ1 at*;have hA:=fun σ=>Cd.Ed bc .aE false (by simp) (by omega) σ;have gc:= @MG bc;generalize kO bc=D at hA gc am;obtain⟨⟨l,P⟩,dp,de⟩:=D;simp only at am gc;have i4:=h8.le _ _ k8;have bad:=fun a σ=>eG a 2 i (by omega) (by omega) (by omega) (by omega) σ;refine gO (S:= [4]) bk @i4 tI ?_;refine ag.of (hA _) ?_ (fun _ _ h=>h.elim);rintro r τ2 ⟨v,hG,rfl⟩;simp-implicitDefEqProofs;rcases aK am with⟨g0,hX⟩|⟨g0,hX⟩
  ·have g0:de=0:=by simpa using g0
   subst g0;obtain⟨hP,i9,j1,d8⟩:=gc rfl;have d8:=d8 hu;obtain⟨E,cap,u,o0,rfl,rfl,eb,f3⟩:∃E cap u,τ1 E=none∧v= .fT E 0 (l.map aJ).length cap∧τ2=τ1.set E (.cells 110 (az (l.map aJ++u)))∧(∀x∈l.map aJ++u,x.cells.length=Tryz.prog.cellsOf 110)∧(l.map aJ).length+u.length=cap:=by
    rcases hG with⟨h1,_,_⟩|hG
    ·exfalso;simp at h1;exact d8 h1
    ·exact hG
   simp only[List.length_map]at f3;have e7:A E=none:=h8.mP o0;obtain⟨nm,f8⟩:∃nm,e.t2.length=nm:=⟨_,rfl⟩;obtain⟨nf,f9⟩:∃nf,e.t1.length=nf:=⟨_,rfl⟩;rw[f8,f9]at hX;obtain⟨Y,hY⟩:∃Y,pV d.sp nm nf i [] l=Y:=⟨_,rfl⟩;rw[hY]at hX;refine gO bk tI @hm ?_;refine ae.bp (α:=(Nat)×(List db)×(AS)) ((0,[],τ1.set E (.cells 110 (az (l.map aJ++u))))) (fun⟨j,n,τ3⟩=>l.length-j) (fun⟨j,n,τ3⟩=>j≤l.length∧n.length=j∧pV d.sp nm nf i n (l.drop j)=Y∧LI k e d (A.set E (.cells 110 (az ((n++l.drop j).map aJ++u)))) τ3) [(0,?_),(1,?_),(3,?_),(8,?_),(10,?_),(11,?_),(12,?_),(52,?_)] (fun⟨j,n,τ3⟩=> [(53,.sc (.int .i64 j))]) (fun⟨j,n,τ3⟩=>τ3) ?_ ?_ ?_ ?_;rotate_left 8
   ·exact gF tI
   ·exact gT
   ·exact⟨by omega,rfl,hY,by simpa using h8.own o0⟩
   intro x_ d5;obtain⟨j,n,τ3⟩:=x_;try dsimp only at d5⊢
   obtain⟨hj,b3,g,hS⟩:=d5;simp only[gj];by_cases b2:j<l.length
   ·have hJ:((j:Int)<l.length)=True:=by simp;omega
    have wj:IntKind.i64.wrap ((j:Int)+1)=j+1:=ay (by omega) (by omega);rw[List.drop_eq_getElem_cons b2]at g hS;generalize hx:l[j]=x at*;simp only[pV]at g;have hlen:((n++x::l.drop (j+1)).map aJ++u).length=cap:=by simp;omega
    have be:∀(z:db) v,v∈(n++z::l.drop (j+1)).map aJ++u→v.cells.length=6:=by
     intro z v hv;rcases List.mem_append.1 hv with hv|hv
     ·obtain⟨w,_,rfl⟩:=List.mem_map.1 hv;rfl
     ·exact(eb v (by simp[hv])).trans (by simp)
    have gI:j<((n++x::l.drop (j+1)).map aJ++u).length:=by simp;omega
    have kb:((n++x::l.drop (j+1)).map aJ++u)[j]=aJ x:=by rw[List.getElem_append_left (by simp;omega),List.getElem_map,List.getElem_append_right (by omega)];simp[b3]
    have ke:j*6+6≤(az ((n++x::l.drop (j+1)).map aJ++u)).length:=by rw[dR (be x)];omega
    have c0:=Cd.mh (m:=6) (be x) (i:=j) (j:=0) gI (by omega);have c1:=Cd.mh (m:=6) (be x) (i:=j) (j:=1) gI (by omega);rw[kb]at c0 c1;simp only[iw,aQ]at c0 c1;have hp:∀z:db,(az ((n++x::l.drop (j+1)).map aJ++u)).take (j*6)++((aJ z).cells++(az ((n++x::l.drop (j+1)).map aJ++u)).drop (j*6+6))=az ((n++ [z]++l.drop (j+1)).map aJ++u):=by intro z;rw[ue (be x) gI (v:=aJ z) rfl];congr 1;rw[List.set_append_left _ _ (by simp;omega)];congr 1;rw[←List.map_set];congr 1;rw[List.set_append_right _ _ (by omega)];simp[b3]
    have hq:n++ [x]++l.drop (j+1)=n++x::l.drop (j+1):=by simp
    have d7:∀z:db,az (List.map aJ (n++ [z])++(List.drop (j+1) (List.map aJ l)++u))=az ((n++ [z]++l.drop (j+1)).map aJ++u):=by intro z;simp[List.map_drop]
    generalize km:az ((n++x::l.drop (j+1)).map aJ++u)=CL at*;have fa:j*6<CL.length:=by omega
    have e8:j*6+1<CL.length:=by omega
    have kI:CL[j*6]? =some (.sc (.int .i64 x.op)):=by simpa using c0
    have kw:CL[j*6+1]? =some (.sc (.int .i64 x.arg)):=by simpa using c1
    obtain⟨_,fb⟩:=List.getElem?_eq_some_iff.1 kI;obtain⟨_,e9⟩:=List.getElem?_eq_some_iff.1 kw;have ko:=hS.le _ _ (AS.aj _ _ _);have f7:=fun σ=>sT x.op σ;simp only[jq]at f7;have i7:(nj x.op).2.1=oO x.op:=rfl;rw[i7]at f7;refine gO bk (j4 @hJ @ko @fa @fb) @f7 ?_;intro J d9;have e4:=hS.own (b:= .cells 194 [.sc (.string ⟨(nj x.op).1.toArray⟩),.sc (.int .i64 (oO x.op)),.sc (.int .i64 (nj x.op).2.2)]) d9;have ci:=hS.mP d9;have c8:E≠J:=by rintro rfl;rw[AS.aj]at ci;cases ci
    have kq:A J=none:=by rwa [AS.ad _ _ c8.symm]at ci
    have d4:(τ3.set J (.cells 194 [.sc (.string ⟨(nj x.op).1.toArray⟩),.sc (.int .i64 (oO x.op)),.sc (.int .i64 (nj x.op).2.2)])) E=some (.cells 110 CL):=(AS.ad _ _ c8).trans ko;have cl:(τ3.set J (.cells 194 [.sc (.string ⟨(nj x.op).1.toArray⟩),.sc (.int .i64 (oO x.op)),.sc (.int .i64 (nj x.op).2.2)])) J=some (.cells 194 [.sc (.string ⟨(nj x.op).1.toArray⟩),.sc (.int .i64 (oO x.op)),.sc (.int .i64 (nj x.op).2.2)]):=AS.aj _ _ _;have bs:=e4.drop (AS.ah (lR (A.set E (.cells 110 CL))) ci);generalize (τ3.set J (.cells 194 [.sc (.string ⟨(nj x.op).1.toArray⟩),.sc (.int .i64 (oO x.op)),.sc (.int .i64 (nj x.op).2.2)]))=τ4 at*;have gM:AS.le B τ4:=AS.le_trans eg (AS.le_trans (AS.ah (lR A) e7) bs.le);have cc:=bs.id;rw[b8]at cc;simp only[cx]at cc;by_cases b6:oO x.op=8
    ·have gs:zY d.sp nm nf i x=cM (nu d.sp x.arg i) fun t=> .ok ⟨x.op,0,t⟩:=by rw[zY,if_pos b6]
     rw[gs]at g;simp only[iS,dc]at g;have b0:=bs.spec x.arg i (by omega) ho;rcases bD g with⟨t,hN,g⟩|⟨f,hN,g⟩
     ·have hs:=RL.ok b0 hN;simp only[Sg.aD]at hs;have hw:=hp ⟨x.op,0,t⟩;have e3:=bs.wr (i:=E) (b:= .cells 110 (CL.take (j*6)++((aJ ⟨x.op,0,t⟩).cells++CL.drop (j*6+6)))) (AS.aj _ _ _);rw[AS.set_set]at e3;simp only[iw,aQ,List.cons_append,List.nil_append]at e3 hw;have i2:=e3.le _ _ (AS.aj _ _ _);have hn:(τ4.set E (.cells 110 (CL.take (j*6)++(.sc (.int .i64 x.op):: .sc (.int .i64 0):: .sc (.int .i64 t.kind):: .sc (.int .i64 t.index):: .sc (.int .i64 t.bt):: .sc (.bool t.ref)::CL.drop (j*6+6))))) J=some (.cells 194 [.sc (.string ⟨(nj x.op).1.toArray⟩),.sc (.int .i64 (oO x.op)),.sc (.int .i64 (nj x.op).2.2)]):=(AS.ad _ _ c8.symm).trans cl;have kt:(CL.take (j*6)++(.sc (.int .i64 x.op):: .sc (.int .i64 0):: .sc (.int .i64 t.kind):: .sc (.int .i64 t.index):: .sc (.int .i64 t.bt):: .sc (.bool t.ref)::CL.drop (j*6+6)))[j*6+1]? =some (.sc (.int .i64 0)):=by rw[List.getElem?_append_right (by simp;omega)];simp[Nat.min_eq_left (show j*6≤CL.length by omega)]
      generalize kl:(CL.take (j*6)++(.sc (.int .i64 x.op):: .sc (.int .i64 0):: .sc (.int .i64 t.kind):: .sc (.int .i64 t.index):: .sc (.int .i64 t.bt):: .sc (.bool t.ref)::CL.drop (j*6+6)))=CN at*;obtain⟨hQ,hW⟩:=List.getElem?_eq_some_iff.1 kt;refine gO (S:= [10]) bk (j2 @cl @b6) tI ?_
      (((with_reducible apply ae.aR (id:=10) (t:=lW));(exact mixed);kernel_rfl;kernel_rfl;(repeat (with_reducible first|apply ak.then|apply ak.block|apply ak.body|apply ak.no)));simp-implicitDefEqProofs [d4,fa,fb,e8,e9])
      repeat' (first
       |(with_reducible apply j2)
       |(refine ag.aC hs ?_;try simp-implicitDefEqProofs [d4,fa,fb,ke,kl,b2]))
      any_goals exact b2
      all_goals
       generalize (τ4.set E (.cells 110 CN))=τ5 at*;refine gO bk (j6 @hn @i2 @hQ @hW @b6 @wj) @hm ?_;refine aP.mk ((j+1,n++ [⟨x.op,0,t⟩],τ5)) (by(try dsimp only);omega) (gF tI) gT ?_;try dsimp only
       exact⟨by omega,by simp[b3],g,by rw[d7,←hw];exact e3⟩
     ·have hs:=RL.bad b0 hN;rw[g]at hX;refine gO (S:= [10]) bk (j2 @cl @b6) tI ?_
      (((with_reducible apply ae.aR (id:=10) (t:=lW));(exact mixed);kernel_rfl;kernel_rfl;(repeat (with_reducible first|apply ak.then|apply ak.block|apply ak.body|apply ak.no)));simp-implicitDefEqProofs [d4,fa,fb,e8,e9])
      repeat' (first
       |(with_reducible apply j2)
       |(refine ag.Db hs ?_;intro τ5 h5;try simp-implicitDefEqProofs))
      all_goals first
       |exact b2
       |exact im (by rw[←hX];rfl) (AS.le_trans gM h5)
    ·have gs:zY d.sp nm nf i x=dj (decide (oO x.op=2)||decide (x.arg<rE nm nf x)) 5 2 i (.ok x):=by rw[zY,if_neg b6]
     rw[gs]at g;simp only[iT,dc]at g;have hE:LI k e d (A.set E (.cells 110 (az ((n++ [x]++l.drop (j+1)).map aJ++u)))) τ4:=by rw[hq,km];exact bs
     have hk:(oO x.op=2∧True∧True∧rE nm nf x=1099511627776)∨(oO x.op=6∧True∧True∧rE nm nf x=nm)∨(oO x.op=7∧True∧True∧rE nm nf x=nf)∨(¬oO x.op=2∧ ¬oO x.op=6∧ ¬oO x.op=7∧rE nm nf x=1099511627776):=by
      unfold rE;by_cases o2:oO x.op=2
      ·exact .inl ⟨o2,trivial,trivial,by simp[o2]⟩
      ·by_cases o6:oO x.op=6
       ·exact .inr (.inl ⟨o6,trivial,trivial,by simp[o6]⟩)
       ·by_cases o7:oO x.op=7
        ·exact .inr (.inr (.inl ⟨o7,trivial,trivial,by simp[o7]⟩))
        ·exact .inr (.inr (.inr ⟨o2,o6,o7,by simp[o6,o7]⟩))
     have h2:=fun σ=>bad 5 σ;rcases hk with⟨o1,o2,o3,b1⟩|hk
     ·have j0:pV d.sp nm nf i (n++ [x]) (l.drop (j+1))=Y:=by
       rcases aK g with⟨_,g⟩|⟨q,_⟩
       ·exact g
       ·simp[o1]at q
      refine gO bk (j3 @cl @o1 @wj) @hm ?_;refine aP.mk ((j+1,n++ [x],τ4)) (by(try dsimp only);omega) (gF tI) gT ?_;try dsimp only
      exact⟨by omega,by simp[b3],j0,by rw[d7];exact hE⟩
     ·have hO:¬oO x.op=2:=by rcases hk with⟨o1,_⟩|⟨o1,_⟩|⟨o1,_⟩<;>omega
      rcases aK g with⟨q,g⟩|⟨q,g⟩
      ·have q:x.arg<rE nm nf x:=by simpa[hO]using q
       rcases hk with⟨o1,o2,o3,b1⟩|⟨o1,o2,o3,b1⟩|⟨o1,o2,o3,b1⟩;all_goals
        rw[b1]at q;refine gO bk (j2 (j7 @cl @b6 @o1 @o2 @o3 @d4 @e8) (j6 @e9 @wj @cc @f8 @f9 @q)) @hm ?_;refine aP.mk ((j+1,n++ [x],τ4)) (by(try dsimp only);omega) (gF tI) gT ?_;try dsimp only
        exact⟨by omega,by simp[b3],g,by rw[d7];exact hE⟩
      ·have q:¬x.arg<rE nm nf x:=by simpa[hO]using q
       rcases hk with⟨o1,o2,o3,b1⟩|⟨o1,o2,o3,b1⟩|⟨o1,o2,o3,b1⟩;all_goals
        rw[b1]at q;refine gO bk (j2 (j7 @cl @b6 @o1 @o2 @o3 @d4 @e8) (j5 @e9 @cc @f8 @f9 @q)) @h2 ?_;exact im (by rw[←hX,g];rfl) gM
   ·have hJ:((j:Int)<l.length)=False:=by simp;omega
    have ce:l.drop j= []:=List.drop_eq_nil_iff.2 (by omega);rw[ce]at g hS;simp only[pV,List.append_nil]at g hS;rw[←g]at hX;simp only[cM]at hX;have f0:n≠ []:=by intro e0;rw[e0]at b3;simp at b3;exact d8 (List.length_eq_zero_iff.1 (by omega))
    refine gO (S:= [19]) bk @hJ tI ?_;obtain⟨S,hF,rfl,e1⟩:=hS.erase (AS.aj _ _ _) (AS.ah (lR A) e7) e7;refine ae.sy 11 (e:=110) (es:=n.map aJ) (S:=S) (.inr ⟨E,cap,u,hF,by simp[b3];omega,rfl,fun v hv=> ?_,by simp;omega⟩) ?_
    ·rcases List.mem_append.1 hv with hv|hv
     ·obtain⟨z,_,rfl⟩:=List.mem_map.1 hv;simp[aJ]
     ·exact eb v (by simp[hv])
    intro g7 fv;obtain rfl:g7=false:=by
     cases g7 with
     |false=>rfl
     |true=>have:=fv rfl;simp at this;exact absurd this f0
    clear fv hF eb f3 b2 d8 o0 e7;have hb:=e1.le _ _ fi;have e4:=e1.wr (b:= .cells 53 [a0,a1,a2,a3,Z,U,Q,O,M,L,.an 110 (n.map aJ) .aE false,.ai]) fi;refine gO (S:= [20]) bk @hb tI ?_;have hg:=(AS.ad S (.cells 53 [a0,a1,a2,a3,Z,U,Q,O,M,L,.an 110 (n.map aJ) .aE false,.ai]) f5.symm).trans (e1.le _ _ k8);have f4:(A.set bh (.cells 53 [a0,a1,a2,a3,Z,U,Q,O,M,L,.an 110 (n.map aJ) .aE false,.ai])) bh=some (.cells 53 [a0,a1,a2,a3,Z,U,Q,O,M,L,.an 110 (n.map aJ) .aE false,.ai]):=AS.aj _ _ _;refine ae.pO bh 11 158 [] true (ty:=53) (cs:= [a0,a1,a2,a3,Z,U,Q,O,M,L,.an 110 (n.map aJ) .aE false,.ai]) (AS.aj _ _ _) (by simp) (.inr ⟨by simp,rfl,rfl⟩) ?_;intro G b5;have F:bh≠G:=by rintro rfl;rw[AS.aj]at b5;cases b5
    have is:H≠G:=nq hg b5;have kn:A G=none:=by
     cases hx:A G with
     |none=>rfl
     |some yy=>have:=e1.le _ _ hx;rw[AS.ad _ _ F.symm,this]at b5;cases b5
    have hI:B G=none:=by
     cases hx:B G with
     |none=>rfl
     |some yy=>have:=eg _ _ hx;rw[kn]at this;cases this
    have bs:=(e4.wr (b:= .cells 53 [a0,a1,a2,a3,Z,U,Q,O,M,L,.an 110 (n.map aJ) .aE false,.an 158 [] (.tok G) true]) f4).own (i:=G) (b:= .tok 0) (by rw[AS.ad _ _ F.symm];exact b5);simp only[AS.set_set]at bs;simp-implicitDefEqProofs only[AS.set_set,List.set_cons_succ,List.set_cons_zero,List.length_nil];have i5:=bs.le H _ (by rw[AS.ad _ _ is,AS.ad _ _ f5.symm];exact k8);obtain⟨V,hV⟩:∃V,pr d.sp P i [] rs=V:=⟨_,rfl⟩;unfold zZ at hX;rw[hV]at hX;clear g hY ce hJ hb e4 f4 b5 hg;generalize hT:((S.set bh (.cells 53 [a0,a1,a2,a3,Z,U,Q,O,M,L,.an 110 (n.map aJ) .aE false,.an 158 [] (.tok G) true])).set G (.tok 0))=T at*;refine gO bk @i5 tI ?_;refine ae.bp (α:=(Nat)×(List Cl)×(AS)) ((0,[],T)) (fun⟨y,cs,τ5⟩=>rs.length-y) (fun⟨y,cs,τ5⟩=>y≤rs.length∧cs.length=y∧pr d.sp P i cs (rs.drop y)=V∧LI k e d ((A.set bh (.cells 53 [a0,a1,a2,a3,Z,U,Q,O,M,L,.an 110 (n.map aJ) .aE false,.an 158 (cs.map ic) (.tok G) (decide (cs= []))])).set G (.tok cs.length)) τ5) [(0,?_),(1,?_),(3,?_),(10,?_),(11,?_),(12,?_),(127,?_),(128,?_)] (fun⟨y,cs,τ5⟩=> [(129,.sc (.int .i64 y))]) (fun⟨y,cs,τ5⟩=>τ5) ?_ ?_ ?_ ?_;rotate_left 8
    ·exact gF tI
    ·exact gT
    ·exact⟨by omega,rfl,hV,by simpa using bs⟩
    intro x_ d5;obtain⟨y,cs,τ5⟩:=x_;try dsimp only at d5⊢
    obtain⟨hy,jp,g,hS⟩:=d5;simp only[gj];have he:=hS.le bh _ (by rw[AS.ad _ _ F,AS.aj]);have i1:=hS.le G _ (AS.aj _ _ _);have hL:B0 G=none:=by
     cases hx:B0 G with
     |none=>rfl
     |some yy=>have:=gS _ _ hx;rw[hI]at this;cases this
    have ei:∀b x,AS.le B0 ((A.set bh b).set G x):=fun b x=>AS.ah (AS.ah (AS.le_trans gS eg) hM) hL;by_cases b2:y<rs.length
    ·have hJ:((y:Int)<rs.length)=True:=by simp;omega
     have ft:rs[y]? =some rs[y]:=List.getElem?_eq_getElem b2;rw[List.drop_eq_getElem_cons b2]at g;generalize rs[y]=r at ft g;simp only[pr,Jx]at g;have wy:IntKind.i64.wrap ((y:Int)+1)=y+1:=ay (by omega) (by omega);have c2:=fun σ=>Du P .aE (decide (P= [])) r hP (by omega) σ;have g2:=fun σ=>bad 12 σ;have gM:=fun b x=>ei b x;generalize gm P r=z at g c2;simp only[dz]at c2;refine gO (S:= [23]) bk (j3 @hJ @ft @dz.eq_1) tI ?_;intro I bb;have h6:=hS.own (b:= .cells 221 [.sc (.int .i64 r.kd),.sc (.int .i64 r.ta),.sc (.int .i64 r.tl),.sc (.int .i64 r.ha),.sc (.int .i64 r.hl),.sc (.int .i64 r.ex)]) bb;have eo:(τ5.set I (.cells 221 [.sc (.int .i64 r.kd),.sc (.int .i64 r.ta),.sc (.int .i64 r.tl),.sc (.int .i64 r.ha),.sc (.int .i64 r.hl),.sc (.int .i64 r.ex)])) I=some (.cells 221 [.sc (.int .i64 r.kd),.sc (.int .i64 r.ta),.sc (.int .i64 r.tl),.sc (.int .i64 r.ha),.sc (.int .i64 r.hl),.sc (.int .i64 r.ex)]):=AS.aj _ _ _;have av:=hS.mP bb;have k0:bh≠I:=by rintro rfl;rw[AS.ad _ _ F,AS.aj]at av;cases av
     have kW:G≠I:=by rintro rfl;rw[AS.aj]at av;cases av
     have hD:=hS.own (b:= .cells 221 [.sc (.int .i64 r.kd),.sc (.int .i64 r.ta),.sc (.int .i64 r.tl),.sc (.int .i64 r.ha),.sc (.int .i64 r.hl),.sc (.int .i64 r.ex)]) bb;have ec:=hD.drop (AS.ah (lR _) av);clear h6 hD bb av he i1;generalize (τ5.set I (.cells 221 [.sc (.int .i64 r.kd),.sc (.int .i64 r.ta),.sc (.int .i64 r.tl),.sc (.int .i64 r.ha),.sc (.int .i64 r.hl),.sc (.int .i64 r.ex)]))=τ6 at*;cases z with
     |none=>simp only at g;have jT:V= .error (mF 12 2 i):=g.symm;simp only[sa,FO,aW]at c2;refine gO bk @eo @c2 ?_;intro o K;refine gO bk tI @g2 ?_;exact bv (by rw[←hX,jT];rfl) (AS.le_trans (AS.le_trans (ei _ _) ec.le) (aq K (lR _)))
     |some c=>
      simp only at g;simp only[sa,aW]at c2;refine gO (S:= [24]) bk @eo @c2 ?_;intro o K;have ar:=ec.mP K;have dl:bh≠o:=by rintro rfl;rw[AS.ad _ _ F,AS.aj]at ar;cases ar
      have c9:G≠o:=by rintro rfl;rw[AS.aj]at ar;cases ar
      have d3:I≠o:=nq eo K;have e6:=ec.own (b:= .cells 158 [.sc (.int .i64 c.k),.sc (.int .i64 c.tf),.sc (.int .i64 c.tt),.sc (.int .i64 c.hf),.sc (.int .i64 c.ht),.sc (.int .i64 c.fl),.sc (.int .i64 c.a),.sc (.int .i64 c.b),.sc (.int .i64 c.c),.sc (.bool c.r)]) K;have ck:(τ6.set o (.cells 158 [.sc (.int .i64 c.k),.sc (.int .i64 c.tf),.sc (.int .i64 c.tt),.sc (.int .i64 c.hf),.sc (.int .i64 c.ht),.sc (.int .i64 c.fl),.sc (.int .i64 c.a),.sc (.int .i64 c.b),.sc (.int .i64 c.c),.sc (.bool c.r)])) o=some (.cells 158 [.sc (.int .i64 c.k),.sc (.int .i64 c.tf),.sc (.int .i64 c.tt),.sc (.int .i64 c.hf),.sc (.int .i64 c.ht),.sc (.int .i64 c.fl),.sc (.int .i64 c.a),.sc (.int .i64 c.b),.sc (.int .i64 c.c),.sc (.bool c.r)]):=AS.aj _ _ _;have cb:(τ6.set o (.cells 158 [.sc (.int .i64 c.k),.sc (.int .i64 c.tf),.sc (.int .i64 c.tt),.sc (.int .i64 c.hf),.sc (.int .i64 c.ht),.sc (.int .i64 c.fl),.sc (.int .i64 c.a),.sc (.int .i64 c.b),.sc (.int .i64 c.c),.sc (.bool c.r)])) I=some (.cells 221 [.sc (.int .i64 r.kd),.sc (.int .i64 r.ta),.sc (.int .i64 r.tl),.sc (.int .i64 r.ha),.sc (.int .i64 r.hl),.sc (.int .i64 r.ex)]):=(AS.ad _ _ d3).trans eo;generalize (τ6.set o (.cells 158 [.sc (.int .i64 c.k),.sc (.int .i64 c.tf),.sc (.int .i64 c.tt),.sc (.int .i64 c.hf),.sc (.int .i64 c.ht),.sc (.int .i64 c.fl),.sc (.int .i64 c.a),.sc (.int .i64 c.b),.sc (.int .i64 c.c),.sc (.bool c.r)]))=τ7 at*;have ib:=d3.symm;refine gO (S:= [25]) bk tI @hm ?_
      (with_reducible apply ae.region);simp-implicitDefEqProofs [ck]
      repeat (with_reducible refine j2 (by first|omega|assumption|decide) ?_)
      try (with_reducible apply ae.seq)
      refine Hi (α:=Cl×AS) (fun v=>LI k e d (((A.set bh (.cells 53 [a0,a1,a2,a3,Z,U,Q,O,M,L,.an 110 (n.map aJ) .aE false,.an 158 (cs.map ic) (.tok G) (decide (cs= []))])).set G (.tok cs.length)).set o (.cells 158 (ic v.1).cells)) v.2∧pr d.sp P i (cs++ [v.1]) (rs.drop (y+1))=V) (fun _ => [(0,.ptr k.id 0),(1,.ptr bh 0),(3,.sc (.int .i64 i)),(10,.sc (.int .i64 0)),(11,.an 110 (n.map aJ) .aE false),(12,.an 3 (P.map aV) .aE (decide (P= []))),(20,.ptr o 0),(127,.an 221 (rs.map dz) .aE (decide (rs= []))),(128,.sc (.int .i64 rs.length)),(129,.sc (.int .i64 y))]) (fun v=>v.2) (fun _ _ =>rfl) ?_ ?_
      ·have hB:B0 o=none:=by
        cases hx:B0 o with
        |none=>rfl
        |some yy=>have:=ei (.cells 53 [a0,a1,a2,a3,Z,U,Q,O,M,L,.an 110 (n.map aJ) .aE false,.an 158 (cs.map ic) (.tok G) (decide (cs= []))]) (.tok cs.length) o _ hx;rw[ar]at this;cases this
       have fz:AS.le B0 τ7:=AS.le_trans (AS.ah (ei _ _) hB) e6.le;by_cases k1:c.k=1
       ·rw[if_pos k1]at g;simp only[iS,dc]at g;have b0:=e6.spec r.ex i (by omega) ho;rcases bD g with⟨t,hN,g⟩|⟨f,hN,g⟩
        ·have hs:=RL.ok b0 hN;simp only[Sg.aD]at hs;have ee:=e6.wr (b:= .cells 158 (ic { c with a:=t.kind,b:=t.index,c:=t.bt,r:=t.ref }).cells) (AS.aj _ _ _);rw[AS.set_set]at ee;refine gO bk (j3 @cb @ck @k1) @hs ?_;refine fV.mk (({ c with a:=t.kind,b:=t.index,c:=t.bt,r:=t.ref },τ7.set o (.cells 158 (ic { c with a:=t.kind,b:=t.index,c:=t.bt,r:=t.ref }).cells))) (gF tI) (by(try dsimp only);exact le_eq (by simp[aW,k1])) ?_;try dsimp only
         exact⟨ee,g⟩
        ·have hs:=RL.bad b0 hN;refine gO bk (j3 @cb @ck @k1) @hs ?_;refine eD ?_;intro τ9 h9;exact bv (by rw[←hX,g];rfl) (AS.le_trans fz h9)
       ·rw[if_neg k1]at g;have ee:LI k e d (((A.set bh (.cells 53 [a0,a1,a2,a3,Z,U,Q,O,M,L,.an 110 (n.map aJ) .aE false,.an 158 (cs.map ic) (.tok G) (decide (cs= []))])).set G (.tok cs.length)).set o (.cells 158 (ic c).cells)) τ7:=e6;by_cases k2:c.k=2
        ·rw[if_neg (by simpa using k2)]at g;simp only[dc]at g;refine gO bk (j2 @ck @k2) tI ?_;refine fV.mk ((c,τ7)) (gF tI) (by(try dsimp only);exact lR _) ?_;try dsimp only
         exact⟨ee,g⟩
        ·rw[if_pos (by simpa using k2)]at g;simp only[iT,dc]at g;have h3:=fun σ=>bad 2 σ;rcases aK g with⟨q,g⟩|⟨q,g⟩
         ·have q:r.ex=0:=by simpa using q
          refine gO bk (j5 @cb @ck @k1 @k2 @q) @hm ?_;refine fV.mk ((c,τ7)) (gF tI) (by(try dsimp only);exact lR _) ?_;try dsimp only
          exact⟨ee,g⟩
         ·have q:¬r.ex=0:=by simpa using q
          refine gO bk (j5 @cb @ck @k1 @k2 @q) @h3 ?_;exact bv (by rw[←hX,g];rfl) fz
      ·rintro⟨c',τ8⟩ ⟨h8,hH⟩;simp only at h8 hH⊢;have i3:=h8.le bh _ (by rw[AS.ad _ _ dl,AS.ad _ _ F,AS.aj]);have i0:=h8.le G _ (by rw[AS.ad _ _ c9,AS.aj]);have fk:=h8.le o _ (AS.aj _ _ _);have kR:=F.symm;have ix:=dl.symm;have it:=c9.symm;have jI:cs.length≤70000:=by omega
       have h9:=((h8.wr (i:=G) (b:= .tok (cs.length+1)) (by rw[AS.ad _ _ c9,AS.aj])).wr (i:=bh) (b:= .cells 53 [a0,a1,a2,a3,Z,U,Q,O,M,L,.an 110 (n.map aJ) .aE false,.an 158 ((cs++ [c']).map ic) (.tok G) (decide (cs++ [c']= []))]) (by rw[AS.ad _ _ F,AS.ad _ _ dl,AS.ad _ _ F,AS.aj])).drop (Rn F ar);simp only[aW,aQ]at fk;refine gO bk (j5 @i3 @i0 @fk @F @wy) tI ?_;refine aP.mk ((y+1,cs++ [c'],(τ8.set G (.tok (cs.length+1))).set bh (.cells 53 [a0,a1,a2,a3,Z,U,Q,O,M,L,.an 110 (n.map aJ) .aE false,.an 158 ((cs++ [c']).map ic) (.tok G) (decide (cs++ [c']= []))]))) (by(try dsimp only);omega) (gF tI) (by(try dsimp only);exact le_eq (by simp[aW])) ?_;try dsimp only
       exact⟨by omega,by simp[jp],hH,by simpa using h9⟩
    ·have hJ:((y:Int)<rs.length)=False:=by simp;omega
     have ce:rs.drop y= []:=List.drop_eq_nil_iff.2 (by omega);rw[ce]at g;simp only[pr]at g;rw[←g]at hX;simp only[cM]at hX;have ge:=fun σ=>Rg.xm n.length cs .aE (decide (cs= [])) (by omega) σ;have i8:∀kk,kk<([a0,a1,a2,a3,Z,U,Q,O,M,L,.an 110 (n.map aJ) .aE false,.an 158 (cs.map ic) .aE (decide (cs= []))]:List AV).length→AV.Wk Tryz.prog (([a0,a1,a2,a3,Z,U,Q,O,M,L,.an 110 (n.map aJ) .aE false,.an 158 (cs.map ic) (.tok G) (decide (cs= []))]:List AV).getD kk .any) (([a0,a1,a2,a3,Z,U,Q,O,M,L,.an 110 (n.map aJ) .aE false,.an 158 (cs.map ic) .aE (decide (cs= []))]:List AV).getD kk .any):=by
      intro kk _
      match kk with
      |0=>exact Wk.refl _
      |1=>exact Wk.refl _
      |2=>exact Wk.refl _
      |3=>exact Wk.refl _
      |4=>exact Wk.refl _
      |5=>exact Wk.refl _
      |6=>exact Wk.refl _
      |7=>exact Wk.refl _
      |8=>exact Wk.refl _
      |9=>exact Wk.refl _
      |10=>exact Wk.refl _
      |11=>simp
      |kk+12=>exact Wk.refl _
     refine ae.KQ bh [a0,a1,a2,a3,Z,U,Q,O,M,L,.an 110 (n.map aJ) .aE false,.an 158 (cs.map ic) .aE (decide (cs= []))] he rfl i8 ?_;have e2:=hS.wr (i:=bh) (b:= .cells 53 [a0,a1,a2,a3,Z,U,Q,O,M,L,.an 110 (n.map aJ) .aE false,.an 158 (cs.map ic) .aE (decide (cs= []))]) (by rw[AS.ad _ _ F,AS.aj]);rw[AS.set_comm F.symm,AS.set_set]at e2;have jW:=e2.drop (B':=B.set bh (.cells 53 [a0,a1,a2,a3,Z,U,Q,O,M,L,.an 110 (n.map aJ) .aE false,.an 158 (cs.map ic) .aE (decide (cs= []))])) (AS.ah (kC eg) (by rw[AS.ad _ _ F.symm];exact hI));have hc:=e2.le bh _ (by rw[AS.ad _ _ F,AS.aj]);generalize (τ5.set bh (.cells 53 [a0,a1,a2,a3,Z,U,Q,O,M,L,.an 110 (n.map aJ) .aE false,.an 158 (cs.map ic) .aE (decide (cs= []))]))=τ6 at*;simp only[Rg.Kd]at ge;rcases aK hX with⟨q,hX⟩|⟨q,hX⟩
     ·have q:(ed (cG n.length) gw cs).2=0:=by simpa using q
      refine gO bk (j3 @hJ @hc @q) (j2 @ge @hm) ?_;exact⟨.bQ [],τ6,Wk.refl _,lR _,(n,cs),hX.symm,rfl,by simpa[f0]using jW⟩
     ·have q:¬(ed (cG n.length) gw cs).2=0:=by simpa using q
      refine gO bk (j3 @hJ @hc @q) (j2 @ge @bad) ?_;exact bv hX (AS.le_trans (ei _ _) e2.le)
  ·have g0:¬de=0:=by simpa using g0
   refine gO bk @g0 @bad ?_;exact im hX (AS.le_trans (AS.le_trans eg h8.le) hG.le)
 ·rw[if_pos ea]at am;refine gO bk @ew @c3 ?_;intro H cd;refine gO bk @ea @hf ?_;exact im am.symm (AS.le_trans h.le (aq cd (lR _)))
end Im
end Go.Proofs.YtknalmoackcpbaaGreat
namespace Go.Proofs.YtknalmoackcpbaaGreat
namespace Im
open Go Go.AW
open Rg (Cl ic aW ed cG gw)
open Sg (lk cD eP)
def oJ (nt:Int) (i:Nat):List Ty→Except iY Unit
 |[]=> .ok ()
 |t::ts=>dj (kZ t nt) 5 2 i (oJ nt i ts)
def tW (C:By) (sp:List Ty) (nm nf:Int) (a:Int) (i:Nat):Except iY (List db×List Cl):=
 if 0<a then rL C sp nm nf (a-1) i else .ok ([],[])
def BZ (lo:List (List Ty)) (a:Int):List Ty:=if 0<a then lo.getD (a-1).toNat []else []
def GR (e:LE) (sp:List Ty) (lo:List (List Ty)) (h:List Int) (i:Nat) (r:List Int):Except iY Mt:=
 dj (decide (ia r 1≤31)&&decide (ia r 2≤12)) 3 2 i (cM (pU e.N (ia r 3)) fun nm=>cM (j9 e.B (ia r 4)) fun b=>
  dj (decide (cD (eP b)=0)) (cD (eP b)) 2 i (dj ((lk (eP b)).this==decide (ia r 1%2=0)) 2 2 i
   (cM (oJ e.t0.length i ((lk (eP b)).ps++ [(lk (eP b)).ret])) fun _ =>dj (decide (ia r 5≤lo.length)) 5 2 i
    (cM (tW e.C sp e.t2.length e.t1.length (ia r 0) i) fun g=>
     .ok ⟨nm,ia h i,ia r 1,(lk (eP b)).ps,decide ((lk (eP b)).ps= []),(lk (eP b)).ret,BZ lo (ia r 5),decide (BZ lo (ia r 5)= []),ia r 2,g.1,decide (g.1= []),g.2,decide (g.2= [])⟩))))
def mN (e:LE) (sp:List Ty) (lo:List (List Ty)) (g:List Int):List Mt→Nat→List (List Int)→Except iY (List Mt)
 |acc,_,[]=> .ok acc
 |acc,i,r::rs=>cM (GR e sp lo g i r) fun m=>mN e sp lo g (acc++ [m]) (i+1) rs
def jZ (e:LE) (sp:List Ty) (lo:List (List Ty)):Except iY (List Mt):=
 dj (decide (e.t2= [])||decide (0<e.t0.length)) 5 2 0 (cM (fU 4 e.t2.length e.t0.length [] 1 0 e.t0) fun g=>mN e sp lo g [] 0 e.t2)
def wW (e:LE):Except iY bZ:=
 cM (pq 0 (vg e)) fun _ =>cM (pT e) fun s=>cM (lv e) fun ts=>cM (mf e) fun fs=>cM (jZ e s.1 s.2) fun ms=>
  if (ms.length:Int)<e.en then .error (5,5,393216)else .ok ⟨ts,decide (ts= []),fs,decide (fs= []),ms,decide (ms= []),e.en-1⟩
def tb (T:List (List (List Int))) (k:Nat):List (List Int):=T.getD k []
def EM (o:St.rr) (k:Nat):By×Bool:=o.getD k ([],true)
def PY (o:St.rr) (en:Int) (T:List (List (List Int))):LE:=
 ⟨(EM o 0).1,(EM o 0).2,(EM o 1).1,(EM o 1).2,(EM o 2).1,(EM o 2).2,(EM o 3).1,(EM o 3).2,en,tb T 0,tb T 1,tb T 2,tb T 3,tb T 4,tb T 5⟩
def Jv (o:St.rr) (x:Option (Int×List (List (List Int)))×Int×Int):Except iY bZ:=match x with
 |(none,a,e)=> .error (e,1,a)
 |(some v,_,_)=>wW (PY o v.1 v.2)
def BW (b:By):Except iY bZ:=
 if (St.dt b).2.2≠0 then .error ((St.dt b).2.2,0,(St.dt b).2.1)else Jv (St.dt b).1 (Rw.mI (EM (St.dt b).1 0).1)
open Rg (Cl ed cG gw ly)
open Cd (oO eW cz aM eH kO gn)
open Bd (R6 cm dd fD CZ GH rh iB)
theorem z6 {α:Type}[DecidableEq α] (l:List α) (t:α):l<+:nG l t:=by
 unfold nG;split
 ·exact List.prefix_rfl
 ·exact List.prefix_append _ _
theorem JF {α:Type}[DecidableEq α] (l:List α) (t:α):(nG l t)[z8 l t]? =some t:=by
 by_cases h:t∈l
 ·obtain⟨_,i,g⟩:=JE h;rw[i,List.getElem?_eq_getElem g];have:=List.findIdx_getElem (p:=fun o=>decide (o=t)) (xs:=l) (w:=g);simp only[decide_eq_true_eq]at this;exact congrArg some this
 ·obtain⟨_,i,g⟩:=JD h;rw[i,g];simp
theorem B4 {α:Type}[DecidableEq α] {l S:List α}{t:α}(h:nG l t<+:S):S[z8 l t]? =some t:=by obtain⟨r,rfl⟩:=h;have h1:=JF l t;have hl:z8 l t<(nG l t).length:=(List.getElem?_eq_some_iff.1 h1).1;rw[List.getElem?_append_left hl];exact h1
theorem Ny {α:Type}[DecidableEq α] (l:List α) (t:α):z8 l t<(nG l t).length:=(List.getElem?_eq_some_iff.1 (JF l t)).1
theorem JC {S l:List Ty}{t:Ty}(h:nG l t<+:S) (i:Int):nu S (rF l t) i= .ok t:=by have h1:=B4 h;have hl:=(List.getElem?_eq_some_iff.1 h1).1;unfold nu dj rF;rw[if_pos (by simp;omega),show((z8 l t:Int)+1-1).toNat=z8 l t by omega,List.getD_eq_getElem?_getD,h1];rfl
theorem pM:∀(l:List db) (sp:List Ty),sp<+:(di sp l).1
 |[],sp=>List.prefix_rfl
 |x::r,sp=>by
  simp only[di];split
  ·exact(z6 sp x.t).trans (pM r _)
  ·exact pM r sp
theorem l0 (P:List Int):∀(l:List Cl) (sp:List Ty),sp<+:(iO P sp l).1
 |[],sp=>List.prefix_rfl
 |c::r,sp=>by
  simp only[iO];split
  ·exact(z6 sp _).trans (l0 P r _)
  ·exact l0 P r sp
theorem sd (P:List Int):∀(l:List Cl) (sp:List Ty),(iO P sp l).2.length=l.length∧(iO P sp l).1.length≤sp.length+l.length
 |[],sp=>⟨rfl,by simp[iO]⟩
 |c::r,sp=>by
  simp only[iO];have g:=sq sp (vH c);split
  ·have:=sd P r (nG sp (vH c));simp only[List.length_cons];omega
  ·have:=sd P r sp;simp only[List.length_cons];omega
theorem qK {x:db}{nt nf nm n:Int}(h:dZ x nt nf nm n=true):¬(x.op<1∨75<x.op)∧rG x (oO x.op)=true∧(oO x.op=5→x.arg<n)∧(oO x.op=6→x.arg<nm)∧(oO x.op=7→x.arg<nf)∧(oO x.op=8→kZ x.t nt=true):=by
 unfold dZ uO at h;rw[Bool.and_eq_true,decide_eq_true_eq]at h;obtain⟨h1,i⟩:=h;split at h1
 ·omega
 rename_i h0;split at h1
 ·rename_i g;refine⟨h0,g,?_,?_,?_,?_⟩<;>intro e<;>(change (nj x.op).2.1= _ at e)<;>simpa[e]using i
 ·omega
theorem Fx {x:db}{nt nf nm n:Int}(h:dZ x nt nf nm n=true) (g:¬oO x.op=8):gn x=true:=by obtain⟨h0,h1,_⟩:=qK h;unfold gn;rw[if_neg h0,if_neg g];exact h1
theorem Fw {x:db}{nt nf nm n:Int}(h:dZ x nt nf nm n=true) (g:oO x.op=8):x.arg=0∧dm x.t=true∧kZ x.t nt=true:=by
 obtain⟨h0,h1,_,_,_,j⟩:=qK h;rw[g]at h1;have i:x.arg=0∧dm x.t=true:=by simpa[rG]using h1
 exact⟨i.1,i.2,j g⟩
theorem LC {op k:Int}(h0:¬(op<1∨75<op)) (g:oO op=8) (h1:0<k) (h:k<16384):gn ⟨op,k,eW⟩=true:=by unfold gn;rw[if_neg h0,if_pos g];simp[Cd.Jb,h1,h]
theorem wu {nt nf nm n:Int} :∀(l:List db) (sp:List Ty),(∀x∈l,dZ x nt nf nm n=true∧Cd.fY x)→(di sp l).1.length<16384→
 ∀y∈(di sp l).2,gn y=true∧(oO y.op=5→y.arg<n)∧Cd.fY y
 |[],sp,_,_ =>by simp[di]
 |x::r,sp,h,hl=>by
  have j:=h x (List.mem_cons_self ..);have o:∀y∈r,dZ y nt nf nm n=true∧Cd.fY y:=fun y g=>h y (List.mem_cons_of_mem _ g);have f0:=qK j.1;by_cases i:oO x.op=8
  ·simp only[di,if_pos i]at hl⊢;have q:=(pM r (nG sp x.t)).length_le;have u:=Ny sp x.t;intro y g;rcases List.mem_cons.1 g with rfl|g
   ·refine⟨LC f0.1 i (by unfold rF;omega) (by unfold rF;omega),fun e=> ?_,?_⟩
    ·simp only at e;omega
    ·unfold Cd.fY rF;simp only;omega
   ·exact wu r _ o hl y g
  ·simp only[di,if_neg i]at hl⊢;intro y g;rcases List.mem_cons.1 g with rfl|g
   ·exact⟨Fx j.1 i,f0.2.2.1,j.2⟩
   ·exact wu r _ o hl y g
theorem D5 {x:db}{nt nf nm n:Int}(h:dZ x nt nf nm n=true) (w:¬oO x.op=2) (l:¬oO x.op=8):x.arg<1099511627776:=by
 have j:=Cd.oB (Fx h l);have v:=Cd.kM x.op;obtain⟨_,_,_,u,q,i,o,g,_⟩:=j;have:oO x.op=0∨oO x.op=1∨oO x.op=3∨oO x.op=4∨oO x.op=5∨oO x.op=6∨oO x.op=7:=by omega
 rcases this with e|e|e|e|e|e|e
 ·have:=u e;omega
 ·have:=q e;omega
 ·have:=i (.inl e);omega
 ·have:=i (.inr e);omega
 ·have:=o e;omega
 ·have:=g (.inl e);omega
 ·have:=g (.inr e);omega
theorem tT {S:List Ty}{nt nf nm n:Int}{i:Nat} :∀(l:List db) (sp:List Ty) (acc:List db),(di sp l).1<+:S→(∀x∈l,dZ x nt nf nm n=true)→
 pV S nm nf i acc (di sp l).2= .ok (acc++l)
 |[],sp,acc,_,_ =>by simp[di,pV]
 |x::r,sp,acc,j,h=>by
  have q:=h x (List.mem_cons_self ..);have v:∀y∈r,dZ y nt nf nm n=true:=fun y w=>h y (List.mem_cons_of_mem _ w);by_cases g:oO x.op=8
  ·simp only[di,if_pos g]at j⊢;have h1:=JC (t:=x.t) ((pM r (nG sp x.t)).trans j) i;have o:=(Fw q g).1;have u:zY S nm nf i ⟨x.op,rF sp x.t,eW⟩= .ok x:=by unfold zY;rw[if_pos g];simp only[h1,cM];rw[←o]
   simp only[pV,u,cM];rw[tT r _ _ j v];simp
  ·simp only[di,if_neg g]at j⊢;obtain⟨_,_,_,D,A,_⟩:=qK q;have u:zY S nm nf i x= .ok x:=by
    unfold zY rE;rw[if_neg g];have:(decide (oO x.op=2)||decide (x.arg<if oO x.op=6 then nm else if oO x.op=7 then nf else 1099511627776))=true:=by
     rw[Bool.or_eq_true,decide_eq_true_eq,decide_eq_true_eq];by_cases o:oO x.op=2
     ·exact .inl o
     ·right;split
      ·exact D (by assumption)
      ·split
       ·exact A (by assumption)
       ·exact D5 q o g
    rw[this];rfl
   simp only[pV,u,cM];rw[tT r _ _ j v];simp
theorem JZ {l:List db}(h1:l.length≤160) (j:∀y∈l,gn y=true) (i:∀y∈l,oO y.op=5→y.arg<l.length):(eH l).2=0:=by
 have ha:l.all gn=true:=by simpa using j
 have h:(cz l).2=0:=by unfold cz;rw[if_neg (by omega),if_pos ha]
 have hf:l.any (Cd.mQ l.length)=false:=by
  rw[List.any_eq_false];intro y g;by_cases e:oO y.op=5
  ·have:=i y g e;simp[Cd.mQ];intro _;omega
  ·simp[Cd.mQ,e]
 unfold eH;rw[if_pos h,hf];rfl
theorem qR {n:Int}{c:Cl}(h:cG n c=0):(1≤c.k∧c.k≤4)∧(0≤c.tf∧c.tf<c.tt∧c.tt≤n)∧(0≤c.hf∧c.hf<c.ht∧c.ht≤n)∧(c.k=2→0≤c.fl∧c.fl<c.hf)∧(¬c.k=2→c.fl= -1):=by
 unfold cG at h;split at h
 ·omega
 rename_i h1;split at h
 ·omega
 rename_i g;simp only[ly,Bool.or_eq_true,decide_eq_true_eq,Bool.not_eq_true',not_or,Bool.and_eq_true,Bool.and_eq_false_iff,decide_eq_false_iff_not,Decidable.not_not]at h1 g;refine⟨by omega,by omega,by omega,fun e=>by omega,fun e=>by omega⟩
theorem sf {P:List Int}(h:P.Pairwise (· < ·)) {x:Int}(h0:0≤x) (h1:x<P.length):lq P (P.getD x.toNat 0)=some x:=by
 have g:x.toNat<P.length:=by omega
 rw[List.getD_eq_getElem?_getD,List.getElem?_eq_getElem g];unfold lq;simp only[Option.getD_some];rw[Cd.xe h g];simp;omega
theorem yH {P:List Int}(h:P.Pairwise (· < ·)) {a b:Int}(h0:0≤a) (h1:a<b) (i:b<P.length):P.getD a.toNat 0<P.getD b.toNat 0:=by
 have ha:a.toNat<P.length:=by omega
 have g:b.toNat<P.length:=by omega
 rw[List.getD_eq_getElem?_getD,List.getD_eq_getElem?_getD,List.getElem?_eq_getElem ha,List.getElem?_eq_getElem g];exact List.pairwise_iff_getElem.1 h _ _ ha g (by omega)
structure KM (P:List Int) (n:Nat):Prop where
 up:P.Pairwise (· < ·)
 len:P.length=n+1
 bd:∀y∈P,0≤y∧y≤1440
theorem KM.get {P:List Int}{n:Nat}(h:KM P n) (i:Nat):0≤P.getD i 0∧P.getD i 0≤1440:=by
 rw[List.getD_eq_getElem?_getD];by_cases g:i<P.length
 ·rw[List.getElem?_eq_getElem g];exact h.bd _ (List.getElem_mem g)
 ·rw[List.getElem?_eq_none (by omega)];simp
theorem Ot {l:List db}(h:l.length≤160):KM (aM l 0) l.length:=
 ⟨Cd.yG l 0,Cd.oE l 0,fun y g=>⟨Cd.qE l 0 y g,by have:=Cd.qD l 0 y g;omega⟩⟩
theorem MJ {P:List Int}{n:Nat}(h:KM P n) {c:Cl}(l:cG n c=0):Nc P c:=by
 obtain⟨h1,j,g,o,q⟩:=qR l;have hl:=h.len;refine⟨h1,by omega,by omega,by omega,by omega,fun e=>by have:=o e;omega,?_,?_,fun i=>by have:=h.get i;omega⟩
 ·have:=yH h.up j.1 j.2.1 (by omega);omega
 ·have:=yH h.up g.1 g.2.1 (by omega);omega
theorem Bq {P:List Int}{n:Nat}(h:KM P n) {c:Cl}(l:cG n c=0) (ex:Int) (hex:c.k=2→ex=P.getD c.fl.toNat 0):
 gm P { ey P c with ex:=ex } =some ⟨c.k,c.tf,c.tt,c.hf,c.ht,c.fl,0,0,0,false⟩:=by
 obtain⟨h1,j,i,q,o⟩:=qR l;have hl:=h.len;have E:=yH h.up j.1 j.2.1 (by omega);have D:=yH h.up i.1 i.2.1 (by omega);have I:=h.get c.tf.toNat;have H:=h.get c.tt.toNat;have G:=h.get c.hf.toNat;have F:=h.get c.ht.toNat;have A:=sf h.up j.1 (by omega);have y:=sf h.up (x:=c.tt) (by omega) (by omega);have w:=sf h.up i.1 (by omega);have v:=sf h.up (x:=c.ht) (by omega) (by omega);unfold gm ey;simp only;rw[if_neg (by simp only[wg,Decidable.not_not];omega),if_neg (by simp only[zI,Decidable.not_not];omega),A,
  show P.getD c.tf.toNat 0+(P.getD c.tt.toNat 0-P.getD c.tf.toNat 0)=P.getD c.tt.toNat 0 by omega,y,w,
  show P.getD c.hf.toNat 0+(P.getD c.ht.toNat 0-P.getD c.hf.toNat 0)=P.getD c.ht.toNat 0 by omega,v]
 simp only[sj];by_cases g:c.k=2
 ·obtain⟨f1,f2⟩:=q g;have u:=sf h.up f1 (by omega);rw[if_pos g,hex g,u];simp only;rw[if_pos (by omega)]
 ·rw[if_neg g,o g]
theorem B1 {S:List Ty}{P:List Int}{n:Nat}(h:KM P n) {c:Cl}{nt:Int}(D:cG n c=0) (ht:FN c nt=true) (i:Nat) (ex:Int)
 (hex:ex=if c.k=1 then ex else(ey P c).ex) (w:c.k=1→nu S ex i= .ok (vH c)):Jx S P i { ey P c with ex:=ex } = .ok c:=by
 have y:=Bq h D ex (fun e=>by rw[hex,if_neg (by omega)];simp[ey,e]);unfold Jx;rw[y];simp only;by_cases k1:c.k=1
 ·rw[if_pos k1,w k1];simp only[cM,vH]
 ·rw[if_neg k1];have A:xZ ⟨c.a,c.b,c.c,c.r⟩=true:=by unfold FN at ht;rw[if_neg k1]at ht;exact ht
  have u:(⟨c.a,c.b,c.c,c.r⟩:Ty)=eW:=Cd.zS A;have g:c.a=0∧c.b=0∧c.c=0∧c.r=false:=by unfold eW at u;simpa using u
  obtain⟨g,q,o,l⟩:=g;obtain⟨k,tf,tt,hf,v,fl,a,b,E,r⟩:=c;simp only at g q o l k1 hex⊢;subst g q o l;by_cases j:k=2
  ·rw[if_neg (by simp[j])]
  ·rw[if_pos j];rw[if_neg k1]at hex;simp only[ey,if_neg j]at hex;rw[hex];rfl
theorem tU {S:List Ty}{P:List Int}{n:Nat}(h:KM P n) {nt:Int}(i:Nat):∀(l:List Cl) (sp:List Ty) (acc:List Cl),(iO P sp l).1<+:S→(∀c∈l,cG n c=0∧FN c nt=true)→
 pr S P i acc (iO P sp l).2= .ok (acc++l)
 |[],sp,acc,_,_ =>by simp[iO,pr]
 |c::r,sp,acc,g,q=>by
  have h1:=q c (List.mem_cons_self ..);have o:∀y∈r,cG n y=0∧FN y nt=true:=fun y u=>q y (List.mem_cons_of_mem _ u);by_cases k1:c.k=1
  ·simp only[iO,if_pos k1]at g⊢;have w:=JC (t:=vH c) ((l0 P r (nG sp (vH c))).trans g) i;have j:=B1 (S:=S) h h1.1 h1.2 i (rF sp (vH c)) (by rw[if_pos k1]) (fun _ =>w);simp only[pr,j,cM];rw[tU h i r _ _ g o];simp
  ·simp only[iO,if_neg k1]at g⊢;have j:=B1 (S:=S) h h1.1 h1.2 i (ey P c).ex (by rw[if_neg k1]) (fun e=>absurd e k1);have v:Jx S P i (ey P c)= .ok c:=j;simp only[pr,v,cM];rw[tU h i r _ _ g o];simp
theorem Fi {P:List Int}{n:Nat}(h:KM P n) {c:Cl}(j:cG n c=0) {ex:Int}(h0:0≤ex) (h1:ex≤65535):CZ { ey P c with ex:=ex } =true:=by obtain⟨D,i,g,A,y⟩:=qR j;have hl:=h.len;have o:=yH h.up i.1 i.2.1 (by omega);have l:=yH h.up g.1 g.2.1 (by omega);have w:=h.get c.tf.toNat;have v:=h.get c.tt.toNat;have u:=h.get c.hf.toNat;have q:=h.get c.ht.toNat;simp only[CZ,rh,ey,List.all_cons,List.all_nil,GH,Bool.and_eq_true,decide_eq_true_eq];refine⟨?_,?_,?_,?_,?_,?_,trivial⟩<;>omega
theorem zL {P:List Int}{n:Nat}(h:KM P n):∀(l:List Cl) (sp:List Ty),(∀c∈l,cG n c=0)→(iO P sp l).1.length≤65535→(iO P sp l).2.all CZ=true
 |[],sp,_,_ =>by simp[iO]
 |c::r,sp,i,hl=>by
  have h1:=i c (List.mem_cons_self ..);have g:∀y∈r,cG n y=0:=fun y j=>i y (List.mem_cons_of_mem _ j);by_cases k1:c.k=1
  ·simp only[iO,if_pos k1]at hl⊢;have o:=(l0 P r (nG sp (vH c))).length_le;have q:=Ny sp (vH c);rw[List.all_cons,Fi h h1 (by unfold rF;omega) (by unfold rF;omega),zL h r _ g hl];rfl
  ·simp only[iO,if_neg k1]at hl⊢;have:CZ (ey P c)=true:=Fi h h1 (ex:=(ey P c).ex) (by unfold ey;simp only;have:=h.get c.fl.toNat;split<;>omega) (by unfold ey;simp only;have:=h.get c.fl.toNat;split<;>omega);rw[List.all_cons,this,zL h r _ g hl];rfl
theorem nO {i:Cl→Int}{j:Cl→Cl→Bool}{l:List Cl}(h:(ed i j l).2=0):l.length≤6∧ ∀c∈l,i c=0:=by
 have o:∀(l pre:List Cl),(Rg.Cx i j pre l).2=0→ ∀c∈l,i c=0:=by
  intro l;induction l with
  |nil=>intro pre _ c g;cases g
  |cons d r n=>
   intro pre h c g;unfold Rg.Cx at h;split at h
   ·rename_i h0;split at h
    ·rcases List.mem_cons.1 g with rfl|g
     ·exact h0
     ·exact n _ h c g
    ·simp at h
   ·rename_i h0;exact absurd h h0
 unfold ed at h;split at h
 ·simp at h
 ·exact⟨by omega,o _ _ h⟩
theorem IK {C W:By}{g:Nat}{code:By}{cls:List R6}(v:W=cm code cls) (h:At C g W) (q:(W.headD 0).toNat%4=3→g%4=0) (n:dd code cls=true):
 (fD C g).1=(code,cls)∧(fD C g).2.2=0:=by
 subst v;have u:iB C g= .ok ((code,cls),g+(cm code cls).length):=by
  by_cases e:g%4=0
  ·exact Bd.J6 h e n
  ·have l:1≤code.length∧code.length≤65535∧cls.length≤6∧cls.all CZ=true:=by simpa[dd]using n
   obtain⟨y,w,D,A⟩:=l;have j:cls= []:=by
    by_cases j:cls= []
    ·exact j
    ·exfalso;apply e;apply q;rw[Bd.vN j];simp[Bd.mO]
   subst j;have i:code.length<64:=by
    by_cases i:code.length<64
    ·exact i
    ·exfalso;apply e;apply q;simp[cm,i,Bd.mO]
   unfold iB;have hw:cm code []=UInt8.ofNat (4*code.length+2)::code:=by simp[cm,i]
   rw[hw]at h⊢;rw[At.cons]at h;have o:=Bd.jY (4*code.length+2);rw[Nat.mod_eq_of_lt (by omega)]at o;rw[←o]at h;rw[Bd.lD h.1 (by omega) (by omega)];simp only;rw[if_pos (by omega),show((4*code.length+2:Nat):Int)/4=code.length by omega,Bd.sH h.2 y w];simp;omega
 unfold fD;have hl:=h.len;rw[if_neg (by omega),Int.toNat_natCast,u];exact⟨rfl,rfl⟩
structure Sw (sp:List Ty) (m:Mt):Prop where
 VM:KM (AT sp m) m.code.length
 dec:kO (EL sp m)=(((di sp m.code).2,AT sp m),0,0)
 right:dd (EL sp m) (N3 sp m)=true
theorem FQ {sp:List Ty}{m:Mt}{nt nf nm:Int}(hl:(zy sp m).length<16384) (u:m.code≠ []) (A:m.code.length≤160)
 (K:∀x∈m.code,dZ x nt nf nm m.code.length=true∧Cd.fY x) (H:(ed (cG m.code.length) gw m.cls).2=0):Sw sp m:=by
 have g:=pN m.code sp;have i:(di sp m.code).1<+:zy sp m:=l0 _ m.cls _;have E:=i.length_le;have q:=wu m.code sp K (by omega);have he:(eH (di sp m.code).2).2=0:=JZ (by omega) (fun y h=>(q y h).1) (fun y h e=>by rw[g.1];exact(q y h).2.1 e);obtain⟨hd,n,l⟩:=Cd.MF he (fun y h=>(q y h).2.2);obtain⟨G,o⟩:=nO H;have v:AT sp m=aM (di sp m.code).2 0:=by unfold AT;rw[l]
 have j:KM (AT sp m) m.code.length:=by rw[v,←g.1];exact Ot (by omega)
 have J:=zL j m.cls (di sp m.code).1 o (by unfold zy at hl;omega);have I:=sd (AT sp m) m.cls (di sp m.code).1;have w:1≤(EL sp m).length∧(EL sp m).length≤65535:=by
  have D:EL sp m=Cd.iD (aM (di sp m.code).2 0) (di sp m.code).2 0:=by
   unfold EL eH at*;rw[if_pos n]at he⊢;split at he
   ·simp at he
   ·rename_i hf;rw[if_neg hf]
  rw[D];have h1:=Cd.Cv (aM (di sp m.code).2 0) (di sp m.code).2 0 0;have L:=List.mem_of_getLast? h1;have M:=Cd.qD _ _ _ L;refine⟨?_,by omega⟩;cases F:(di sp m.code).2 with
  |nil=>rw[F]at g;simp at g;exact absurd (List.length_eq_zero_iff.1 g.1.symm) u
  |cons y r=>simp[Cd.iD,Cd.dZ]
 refine⟨j,by rw[v];exact hd,?_⟩;simp only[dd,Bool.and_eq_true,decide_eq_true_eq];exact⟨w.1,w.2,by unfold N3;omega,J⟩
theorem GS {S:List Ty}{C:By}{sp:List Ty}{m:Mt}{nt nf nm:Int}{g i:Nat}(u:zy sp m<+:S) (hl:S.length<16384) (o:m.code≠ []) (j:m.code.length≤160)
 (w:∀x∈m.code,dZ x nt nf nm m.code.length=true∧Cd.fY x) (E:∀c∈m.cls,FN c nt=true) (l:(ed (cG m.code.length) gw m.cls).2=0)
 (F:At C g (xR sp m)) (G:((xR sp m).headD 0).toNat%4=3→g%4=0):
 rL C S nm nf g i= .ok (m.code,m.cls):=by
 have q:=FQ (sp:=sp) (by have:=u.length_le;omega) o j w l;have n:=tU (S:=S) q.VM (nt:=nt) i m.cls (di sp m.code).1 [] u (fun c v=>⟨(nO l).2 c v,E c v⟩);obtain⟨A,y⟩:=IK (W:=xR sp m) rfl F G q.right;unfold rL;rw[A,y,if_neg (by simp)];simp only[q.dec];rw[tT m.code sp [] ((l0 _ m.cls _).trans u) (fun x D=>(w x D).1)];simp only[List.nil_append,cM,zZ];have h:pr S (AT sp m) i [] (N3 sp m)= .ok m.cls:=n;rw[h];simp only[l];rfl
end Im
end Go.Proofs.YtknalmoackcpbaaGreat
