import Derived.Test.YtafbccendejkeaaGreatDoorPt28
import Derived.Tactics
import Derived.Tactics2
import Derived.Defers
import Derived.Recover
import Derived.Laws.Pointers
import Derived.WalkKit
import Derived.RowKit3
set_option maxRecDepth 100000
set_option maxHeartbeats 16000000
set_option linter.all false
set_option linter.defProp false
namespace Go.Proofs.YtafbccendejkeaaGreatDoor
open Go Go.Abs Go.RowKit Tryz
def kq(vs:List Var)(l:List Int):Int:=(l.map fun i=>zM vs i.toNat).sum
def W9(vs l i):kq vs (l++[i])=kq vs l+zM vs i.toNat:=by simp[kq]
def Jh{vs}(hw:∀v∈vs,0<=v.width)(n):0<=zM vs n:=by
 unfold zM;split
 . rename_i v hv;exact hw v (qAn hv)
 omega
def Yt{vs}(hw:∀v∈vs,0<=v.width):∀l:List Int,0<=kq vs l
 |[]=>by simp[kq]
 | a::r=>by
  have:=Yt hw r;have:=Jh hw a.toNat;simp only[kq,qAz,qCp]at *;omega
def qbP(vs l m):kq vs (l++m)=kq vs l+kq vs m:=by simp[kq]
def W8{vs}(hw:∀v∈vs,0<=v.width)(l k):kq vs (l.take k)<=kq vs l:=by
 have h1:=qbP vs (l.take k) (l.drop k);rw[qA9]at h1;have:=Yt hw (l.drop k);omega
def qf6{vs}{l:List Int}(hl:∀i∈l,∃n:Nat,i=n/\n<vs.length)(hnd:l.Nodup):∀m,m<=l.length->(wC vs (l.take m)).2=kq vs (l.take m)/\∀k (i:Int),k<m->l[k]?=some i->(wC vs (l.take m)).1[i.toNat]?=some (kq vs (l.take k))
 |0,_=>⟨by simp[wC,kq],fun k i h=>by omega⟩
 | m+1,hm=>by
  obtain⟨ih1,ih2⟩:=qf6 hl hnd m (by omega);obtain⟨j,hj⟩:∃j,l[m]?=some j:=⟨_,qAo (by omega)⟩;have ht:l.take (m+1)=l.take m++[j]:=by rw[qAT,hj];rfl
  obtain⟨n,rfl,hn⟩:=hl j (qAn hj);have hlen:=ZR vs (l.take m);rw[ht,VB,W9];refine⟨by simp only[vD,ih1],fun k i hk hi=>?_⟩;simp only[vD,qAS];by_cases hkm:k=m
  . subst hkm;rw[hj]at hi;cases hi;rw[qAS,qAt (by omega),ih1]
  obtain⟨n2,rfl,hn2⟩:=hl i (qAn hi);have hne:n≠n2:=by
   rintro rfl;have hp:=qCb.1 hnd;obtain⟨a1,a2⟩:=qAm.1 hj;obtain⟨b1,b2⟩:=qAm.1 hi;exact hp k m b1 a1 (by omega) (by rw[a2,b2])
  rw[qAS,qAp hne];exact ih2 k _ (by omega) hi
def qbN{f:Int->Int}:∀{l:List Int}{a:Int},a∈l->((l.erase a).map f).sum+f a=(l.map f).sum
 | x::r,a,h=>by
  rw[List.erase_cons];split
  . rename_i hx;have:x=a:=by simpa using hx
    subst this;simp;omega
  rename_i hx;have hx:¬x=a:=by simpa using hx
  have h2:a∈r:=(qAM.1 h).resolve_left (Ne.symm hx);have:=qbN (f:=f) h2;simp;omega
def qdU{f:Int->Int}(hf:∀i,0<=f i):∀(n:Nat) (l:List Int),l.Nodup->(∀x∈l,0<=x/\x<n)->(l.map f).sum<=((List.range n).map fun k:Nat=>f k).sum
 | 0,l,_,h=>by
  cases l with
  |nil=>simp
  |cons a r=>have:=h a (by simp);omega
 | n+1,l,hn,h=>by
  rw[qBF,qBp,qEa];simp only[qAz,qAZ,qCp,qEw];by_cases hm:(n:Int)∈l
  . have h1:=qdU hf n (l.erase (n:Int)) (hn.erase _) fun x hx=>by
     have h2:=(hn.mem_erase_iff).1 hx;have:=h x h2.2;omega
    have:=qbN (f:=f) hm;omega
  have h1:=qdU hf n l hn fun x hx=>by
   have:=h x hx;have h2:x≠(n:Int):=fun e=>hm (e▸hx)
   omega
  have:=hf n;omega
def qq5(vs:List Var)(i:Int):Int:=if yG vs i=true then zM vs i.toNat else 0
def qlq:∀(vs),((List.range vs.length).map fun k:Nat=>qq5 vs k).sum=yu vs:=by
 have gen:∀(vs pre:List Var),((List.range' pre.length vs.length).map fun k:Nat=>qq5 (pre++vs) k).sum=yu vs:=by
  intro vs
  induction vs with
  |nil=>intro pre;rfl
  | cons v r ih=>
   intro pre;have:=ih (pre++[v]);rw[qA4,qB5,qAq,qAQ]at this;rw[qAD,qB6,qAz,qCp,this];simp only[yu];congr 1;simp only[qq5,yG,zM,qAS,show(pre++v::r)[pre.length]?=some v by rw[qAw (qAy _),qBm];rfl];by_cases hm:v.mode=0<;>simp[hm]
 intro vs;have:=gen vs []
 rwa[qBh,<- qBI,qAK]at this
def qha{p}(h:qk p=0):yu p.vars<=20:=by
 have hv:jd p.vars=0:=by
  unfold qk at h;split at h
  . exact absurd h (by assumption)
  rename_i h1;exact qBt.1 h1
 unfold jd at hv;split at hv
 . cases hv
 split at hv
 . rename_i h1;exact absurd hv h1
 split at hv
 . cases hv
 split at hv
 . cases hv
 split at hv
 . cases hv
 omega
def YD{p}(h:qk p=0):∀i∈p.groups.flatten,∃n:Nat,i=n/\n<p.vars.length:=fun i hi=>by
 obtain⟨n,v,rfl,hn,_⟩:=QZ ((jE h).2.1 i hi);exact⟨n,rfl,(qAm.1 hn).1⟩
def Qw{p}(h:qk p=0):∀v∈p.vars,0<=v.width:=fun v hm=>by have:=zd (z0 h v hm);omega
def K6{p}(h:qk p=0):kq p.vars p.groups.flatten<=20:=by
 have h1:=qdU (f:=qq5 p.vars) (fun i=>by unfold qq5;split;exact Jh (Qw h) _;omega) p.vars.length p.groups.flatten (jE h).2.2.1 (fun i hi=>by
  obtain⟨n,rfl,hn⟩:=YD h i hi;omega)
 rw[qlq]at h1;have h2:=qha h;have h3:(p.groups.flatten.map (qq5 p.vars)).sum=kq p.vars p.groups.flatten:=by
  unfold kq;congr 1;exact qBv fun i hi=>by unfold qq5;rw[if_pos ((jE h).2.1 i hi)]
 omega
def kH(p):(qN p).length=p.vars.length:=ZR p.vars _
def KJ{p:Problem}(h:qk p=0){k:Nat}{n:Nat}(hk:p.groups.flatten[k]?=some (n:Int)):(qN p)[n]?=some (kq p.vars (p.groups.flatten.take k)):=by
 have h1:=(qf6 (YD h) (jE h).2.2.1 p.groups.flatten.length (qAy _)).2 k _ (qAm.1 hk).1 hk;rw[qB7,qAS]at h1;exact h1
def qjs{p:Problem}(h:qk p=0){n:Nat}{v:Var}(hv:p.vars[n]?=some v)(hm:v.mode≠0):∃k:Nat,p.groups.flatten[k]?=some (n:Int):=by
 have:=(jE h).2.2.2 n (qAm.1 hv).1 (by simp[yG,hv,hm]);exact qA5 this
def qkc{p:Problem}(h:qk p=0):∀(i:Nat) (v:Var) (l:Int),p.vars[i]?=some v->(qN p)[i]?=some l->v.mode≠0->0<=l/\l+v.width<=20:=fun i v l hv hl hm=>by
 obtain⟨k,hk⟩:=qjs h hv hm;have h1:=KJ h hk;rw[hl]at h1;cases h1;have h2:=Yt (Qw h) (p.groups.flatten.take k);have h3:=W8 (Qw h) p.groups.flatten (k+1);rw[show p.groups.flatten.take (k+1)=p.groups.flatten.take k++[(i:Int)] by rw[qAT,hk];rfl,W9]at h3;have h5:zM p.vars (i:Int).toNat=v.width:=by simp[zM,hv]
 have h6:=K6 h;omega
def qtU(W):(Instr.typeAssert .nilIface 20 237 true).run prog W=.ok (.tuple #[.agg #[.int .i64 0],.bool false]) W:=by kernel_rfl
def qtT(W v):(Instr.typeAssert (.iface 237 v) 20 237 true).run prog W=.ok (.tuple #[v,.bool true]) W:=by kernel_rfl
def Z8(B x y)(older:List PanicEntry)(w)(hp:B<w.heap.size)(hc:w.cell? ⟨B,0,none⟩=some x)(hz:w.frozen? ⟨B,0,none⟩=false) :
 CallsD prog 190 #[.pointer (some ⟨B,0,none⟩)] (.panicking ({ v:=.iface 237 (.agg #[.int .i64 y]),recovered:=false }::older)) w fun e u' w'=>
  e=.returned (.tuple #[])/\u'=.panicking ({ v:=.iface 237 (.agg #[.int .i64 y]),recovered:=true }::older)/\w'=(w.alloc (.cells #[.int .i64 y] 237)).setCell ⟨B,0,none⟩ (.int .i64 y):=by
 refine callsD_of_wpS func190 rfl fun c₀ cs hu=>?_
 apply wpS_seq;apply wpS_region;simp[wpOpsS,go_sem,recoverD,hu,Tryz.ntmps190,Exit.thenS];apply wpS_seq;apply wpS_region;simp[wpOpsS,go_sem,recoverD,Exit.thenS,qtT];apply wpS_seq;apply wpS_region;simp[wpOpsS,go_sem,Exit.thenS];refine wpS_cond (t:=true) (by simp[Act.eval,Array.replicate]) ?_;simp only[if_true];apply wpS_region;simp[wpOpsS,go_sem,recoverD,bodyPostS,results,Tryz.results190,hz,frozen?_alloc_cells,World.cell?_alloc_past _ _ _ hp];rw[hc];simp[Result.andThen_ok,go_sem]
def qa8(p:Addr)(w) :
 CallsD prog 190 #[.pointer (some p)] .returning w fun e u' w'=>e=.returned (.tuple #[])/\u'=.returning/\w'=w.alloc (.cells #[.int .i64 0] 237):=by
 refine callsD_of_wpS func190 rfl fun c₀ cs hu=>?_
 apply wpS_seq;apply wpS_region;simp[wpOpsS,go_sem,recoverD,hu,Tryz.ntmps190,Exit.thenS];apply wpS_seq;apply wpS_region;simp[wpOpsS,go_sem,recoverD,hu,Exit.thenS,qtU];apply wpS_seq;apply wpS_region;simp[wpOpsS,go_sem,Exit.thenS];refine wpS_cond (t:=false) (by simp[Act.eval,Array.replicate]) ?_;simp only[qAP,if_false];apply wpS_seq;apply wpS_region;simp[wpOpsS,go_sem,recoverD,Exit.thenS];refine wpS_cond (t:=false) (by simp[Act.eval,Array.replicate]) ?_;simp only[qAP,if_false];refine wpS_of_wp (wp_skip ?_);cases c₀;simp_all[bodyPostS,results,Tryz.results190]
def qip{G H:Glo}(hG:H.g=G.g){Q R:AV->St->Prop}{f:Nat}{first cap:List AV}{U:St}
 (h:qg prog H f (first++cap) (U.push (.cells [.int .i64 0])) R)
 (hR:∀v τ,R v τ->(∃x,τ.H[U.H.length]?=some (.cells [x]))/\Q (.int .i64 0) ⟨τ.H.set U.H.length (.cells [.int .i64 0])++[.cells [.int .i64 0]],τ.T⟩)
 (hX:∀c τ,H.X c τ->(∃x,τ.H[U.H.length]?=some (.cells [x]))/\∃k,c=[{ v:=.iface 237 (.agg #[.int .i64 k]),recovered:=false }]/\Q (.int .i64 k) ⟨τ.H.set U.H.length (.cells [.int .i64 k])++[.cells [.int .i64 k]],τ.T⟩) :
 qg prog G 131 [.fn f first cap] U Q:=by
 refine⟨by kernel_rfl,fun w0 ro0 K w vs hw hvs=>?_⟩;simp only[qj]at hvs;obtain⟨v0,vr,e0,⟨va,vb,rfl,ha,hb⟩,rfl⟩:=hvs;have evs:vs = #[.func (.func f) va vb]:=by apply Array.ext';simpa using e0
 subst evs
 go_enter_defers func131,Tryz.ntmps131
 go_wp2
 rw[JJ h.1,Oper.upon_enter];have hw1:WRel H.g w0 ro0 (K.addM U.H.length w.heap.size (j5 (.cells #[.int .i64 0] 32))) (U.push (.cells [.int .i64 0])) (w.alloc (.cells #[.int .i64 0] 32)):=by
  rw[hG];exact hw.push ⟨#[.int .i64 0],32,rfl,by simp,by simp,fun i a e=>by
   cases i with
   |zero=>simp at e;subst e;exact⟨_,rfl,by simp[qi]⟩
   |succ i=>simp at e⟩
 have hle1:=qEW hw w.heap.size (j5 (.cells #[.int .i64 0] 32));generalize hK1:K.addM U.H.length w.heap.size (j5 (.cells #[.int .i64 0] 32))=K1 at hw1 hle1;have hm1:K1.m U.H.length=some w.heap.size:=by rw[<- hK1];simp[Kn.addM]
 have hp1:qi K1 (.ptr U.H.length 0) (.pointer (some ⟨w.heap.size,0,none⟩)):=by simp only[qi];exact⟨_,hm1,rfl⟩
 have hvs1:qj K1 (first++cap) (va++vb).toList:=by
  rw[Array.toList_append];exact(qj.mono hle1 _ ha).append (qj.mono hle1 _ hb)
 refine Calls.mono (h.2 w0 ro0 K1 _ _ hw1 hvs1) ?_;rintro e w' (⟨v',v,τ,K2,rfl,k1,k2,k3,k4⟩|⟨c,τ,K2,rfl,k1,k2,k3⟩)
 . obtain⟨⟨x,hx⟩,hq⟩:=hR v τ k4;have hm2:K2.m U.H.length=some w.heap.size:=k1.m _ _ hm1;rw[hG]at k2;obtain⟨w2,hst,hw2⟩:=Q8 (P:=prog) (t:=32) (x:=.int .i64 0) (x':=.int .i64 0) k2 (hp1.mono k1) (by simp[qi]) (U':=⟨τ.H.set U.H.length (.cells [.int .i64 0]),τ.T⟩) (by simp[Va,hx,D32]);obtain⟨B',g1,g2,g3,⟨cs,el,g4,g5,g6,g7⟩,g8⟩:=k2.blk _ _ hx;rw[hm2]at g1;cases g1;obtain⟨xv,hxv,_⟩:=g7 0 x rfl;have hc:w'.cell? ⟨w.heap.size,0,none⟩=some xv:=(by simp[World.cell?,g4,hxv]);have hz:w'.frozen? ⟨w.heap.size,0,none⟩=false:=by simp[World.frozen?,g4]
   go_wp2
   have e2:w'.setCell ⟨w.heap.size,0,none⟩ (.int .i64 0)=w2:=by
    have:=hst;simp[Instr.storeAt,go_sem,hc,hz]at this;exact this
   rw[e2];have hw3:=hw2.push (b:=.cells [.int .i64 0]) (o:=.cells #[.int .i64 0] 237) ⟨#[.int .i64 0],237,rfl,by simp,by simp,fun i a e=>by
    cases i with
    |zero=>simp at e;subst e;exact⟨_,rfl,by simp[qi]⟩
    |succ i=>simp at e⟩
   have hle3:=qEW hw2 w2.heap.size (j5 (.cells #[.int .i64 0] 237));have hnl:=(qAm.1 hx).1;have hcell:(w2.alloc (.cells #[.int .i64 0] 237)).cell? ⟨w.heap.size,0,none⟩=some (.int .i64 0):=by
    obtain⟨B',q1,q2,q3,⟨cs,el,q4,q5,q6,q7⟩,q8⟩:=hw3.blk U.H.length (.cells [.int .i64 0]) (by simp only[St.push];rw[qAB (by simpa using hnl),qAt hnl]);rw[hle3.m _ _ hm2]at q1;cases q1;obtain⟨v,h1,h2⟩:=q7 0 _ rfl;simp only[qi]at h2;subst h2;simp[World.cell?,q4,h1]
   refine leaves_cons (f:=190) (args:=#[.pointer (some ⟨w.heap.size,0,none⟩)]) (by simp) (by simp[go_sem]) ?_;refine(qa8 ⟨w.heap.size,0,none⟩ _).mono ?_;rintro e u' w'' ⟨rfl,rfl,rfl⟩;simp[Leaves,settle,results,Tryz.results131,go_sem,hcell];exact⟨_,_,_,qE1 hle1 (qE1 k1 hle3),hw3,by simp[qi],hq⟩
 obtain⟨⟨x,hx⟩,k,rfl,hq⟩:=hX c τ k3;have hm2:K2.m U.H.length=some w.heap.size:=k1.m _ _ hm1;rw[hG]at k2;obtain⟨B',g1,g2,g3,⟨cs,el,g4,g5,g6,g7⟩,g8⟩:=k2.blk _ _ hx;rw[hm2]at g1;cases g1;obtain⟨xv,hxv,_⟩:=g7 0 x rfl;have hc:w'.cell? ⟨w.heap.size,0,none⟩=some xv:=by simp[World.cell?,g4,hxv]
 have hz:w'.frozen? ⟨w.heap.size,0,none⟩=false:=by simp[World.frozen?,g4]
 have hnl:=(qAm.1 hx).1;have hw3:=k2.push (b:=.cells [.int .i64 k]) (o:=.cells #[.int .i64 k] 237) ⟨#[.int .i64 k],237,rfl,by simp,by simp,fun i a e=>by
  cases i with
  |zero=>simp at e;subst e;exact⟨_,rfl,by simp[qi]⟩
  |succ i=>simp at e⟩
 have hle3:=qEW k2 w'.heap.size (j5 (.cells #[.int .i64 k] 237));obtain⟨w2,hst,hw4⟩:=Q8 (P:=prog) (t:=32) (x:=.int .i64 k) (x':=.int .i64 k) hw3 (hp1.mono (qE1 k1 hle3)) (by simp[qi]) (U':=⟨τ.H.set U.H.length (.cells [.int .i64 k])++[.cells [.int .i64 k]],τ.T⟩)
  (by simp[Va,qAB hnl,hx,D32,List.set_append_left _ _ hnl,St.push])
 have e2:(w'.alloc (.cells #[.int .i64 k] 237)).setCell ⟨w.heap.size,0,none⟩ (.int .i64 k)=w2:=by
  have:=hst;simp[Instr.storeAt,go_sem,hz,frozen?_alloc_cells,World.cell?_alloc_past _ _ _ g3]at this;rw[hc]at this;simpa[Result.andThen_ok,go_sem] using this
 have hcell:w2.cell? ⟨w.heap.size,0,none⟩=some (.int .i64 k):=by
  obtain⟨B',q1,q2,q3,⟨cs,el,q4,q5,q6,q7⟩,q8⟩:=hw4.blk U.H.length (.cells [.int .i64 k]) (by simp only;rw[qAB (by simpa using hnl),qAt hnl]);rw[hle3.m _ _ hm2]at q1;cases q1;obtain⟨v,h1,h2⟩:=q7 0 _ rfl;simp only[qi]at h2;subst h2;simp[World.cell?,q4,h1]
 simp only[Exit.then];refine leaves_cons (f:=190) (args:=#[.pointer (some ⟨w.heap.size,0,none⟩)]) (by simp) (by simp[go_sem]) ?_;refine(Z8 w.heap.size xv k [] _ g3 hc hz).mono ?_;rintro e u' w'' ⟨rfl,rfl,rfl⟩;rw[e2];simp[Leaves,settle,results,Tryz.results131,go_sem,hcell];exact⟨_,_,_,qE1 hle1 (qE1 k1 hle3),hw4,by simp[qi],hq⟩
def VC{p e}(hk:zy p.vars e=0)(ht:Jf e):qiz p e/\zi e=0:=by
 have he:zi e=0/\Yc e=false/\Zj p.vars e=false:=by
  unfold zy at hk;split at hk
  . rename_i h;exact absurd hk h
  rename_i h;split at hk
  . cases hk
  split at hk
  . cases hk
  rename_i h2 h3;exact⟨qBt.1 h,by simpa using h2,by simpa using h3⟩
 refine⟨fun x hx=>?_,he.1⟩;have hn:=vO he.1 x hx;have h1:=he.2.1;have h2:=he.2.2;rw[Yc,qB4]at h1;rw[Zj,qB4]at h2;have h1:=h1 x hx;have h2:=h2 x hx;refine⟨hn,fun h=>h1 (by simp[h]),fun h=>h1 (by simp[h]),fun h=>?_,?_⟩
 . cases hh:Qf p.vars x.name with
   |true=>rfl
   |false=>exact absurd (by simp[h,hh]) h2
 have ho:=(ji hn).2.2.2.2.1;unfold ql at ho;split at ho
 . simp only[decide_eq_true_eq]at ho;omega
 simp only[decide_eq_true_eq]at ho;unfold zB at ho
 repeat' split at ho
 all_goals omega
def qnf:List (Nat×Sch×List Nat):=[(0,.step 1 [5,4,3] (.step 2 [5,4,3] (.fork (.cons 0 (.step 3 [5,4] (.step 4 [5] (.step 5 [] (.done)))) (.cons 3 (.step 0 [5,4] (.step 4 [5] (.step 5 [] (.done)))) (.nil))))),[3,4])]
def InQ(c:Bc)(d:List Nd)(p3:Nat)(H:List Blk)(v:(Nat->Bool)->Bool)(r:AV)(U':St):Prop :=
 ∃d' t H1,U'.H=H1.set p3 (.cells [.int .i64 (t:Nat)])/\p3<H1.length/\BX c H d' H1/\za d d'/\t<d'.length/\∀b,evD d' b t=v b
def qgh{c d H T}(h:BX c H d H){p lv}(hp:PB p lv c)(e)(he:qiz p e){p1 p2 p3}(b1:H[p1]?=some (.cells [.ptr c.B 0]))(b2:H[p2]?=some (.cells (qp e))){x}(b3:H[p3]?=some (.cells [x]))(h3:p3≠c.B)(h1:p1≠c.B) :
 qg prog (XG c) 132 [.ptr p1 0,.ptr p2 0,.ptr p3 0] ⟨H,T⟩ (InQ c d p3 H fun b=>!decide (yf (yg p.vars (QM p.vars lv b)) e=0)):=by
 refine qEH ⟨false,qnf,[],[]⟩ qe func132 rfl (by kernel_rfl) ?_;have hw:=fun T=>qqo hp e he d H T h
 rw[qc e]at b2 hw;simp;rw[qR rfl];simp[ze,b1,b2];refine⟨qEM (hw T) ?_,qEM (hw T) ?_⟩
 all_goals
  rintro v ⟨H2,T2⟩ ⟨d2,W,rfl,hxx2,hg2,hW,hv2⟩;have hx2:=h.call hxx2;have c1:=hxx2.loc b1 h1;have c3:=hxx2.loc b3 h3;simp[ze,c1];refine qEM (Qx hx2.self hW) ?_;rintro v ⟨H3,T3⟩ ⟨d3,t,rfl,hxx3,hg3,ht3,hv3⟩;dsimp only at hv3;have hx3:=hx2.call hxx3;have e3:=hxx3.loc c3 h3;have hl3:=(qAm.1 e3).1;dsimp only at e3 hl3;simp[ze,e3];refine⟨d3,t,H3,rfl,hl3,hx3,hg2.trans hg3,ht3,fun b=>?_⟩;rw[hv3,vQ];have:=hv2 b;unfold z5 at this;rw[this]
def qni:List (Nat×Sch×List Nat):=[(8,.step 0 [7,6,5,3,2,1] (.step 1 [7,6,5,3,2] (.step 2 [7,6,5,3] (.step 3 [7,6,5] (.fork (.cons 4 (.step 5 [7,6] (.step 6 [7] (.step 7 [] (.done)))) (.cons 5 (.step 4 [7,6] (.step 6 [7] (.step 7 [] (.done)))) (.nil))))))),[])]
def qzw(d:List Nd)(H:List Blk)(v:(Nat->Bool)->Bool)(r:AV)(U':St):Prop :=
 KpL [] H U'.H/\(r=.tup [.agg [.sl 0 [] .nil],.int .i64 0,.int .i64 2] \/
  ∃d' t tok,r=.tup [.agg [.sl 3 (d'.map qH) tok],.int .i64 (t:Nat),.int .i64 0]/\za d d'/\DagOk d'/\t<d'.length/\∀b,evD d' b t=v b)
def qzI(B p3:Nat)(d:List Nd)(E:List Blk)(v:(Nat->Bool)->Bool)(r:AV)(U':St):Prop :=
 KpL [B,p3] E U'.H/\(r=.int .i64 2\/(r=.int .i64 0/\∃d' t tok rest,U'.H[p3]?=some (.cells [.int .i64 (t:Nat)])/\U'.H[B]?=some (.cells (.sl 3 (d'.map qH) tok::rest))/\za d d'/\DagOk d'/\t<d'.length/\∀b,evD d' b t=v b))
def qvq{d}(hd:DagOk d){p}{LV:List Int}(hle:LV.length=p.vars.length)(hvl:p.vars.length<=1000)(hvars:∀v∈p.vars,jW v=0)(hnd:(p.vars.map (·.name)).Nodup)
 (hlo:∀(i:Nat) (v:Var) (l:Int),p.vars[i]?=some v->LV[i]?=some l->v.mode≠0->0<=l/\l+v.width<=20) {E B M p1 p2 p3 e x val}
 (bB:E[B]?=some (.cells (.sl 3 (d.map qH) .none::(qt p++[.sl 1 (LV.map qh) .none,.map M])))) (bM:E[M]?=some (vM p.vars)) (hMB:M≠B)
 (b1:E[p1]?=some (.cells [.ptr B 0])) (b2:E[p2]?=some (.cells (qp e))) (b3:E[p3]?=some (.cells [x])) (h1:p1≠B) (h3:p3≠B) (hbl:qiz p e)
 (hval:∀b,(!decide (yf (yg p.vars (QM p.vars LV b)) e=0))=val b) (T) :
 qg prog GG 131 [.fn 132 [] [.ptr p1 0,.ptr p2 0,.ptr p3 0]] ⟨E,T⟩ (qzI B p3 d E val):=by
 obtain⟨E0,hE0⟩:∃E0,E0=E++[Blk.cells [.int .i64 0]]:=⟨_,rfl⟩;obtain⟨c,hc⟩:∃c:Bc,c=⟨B,M,qt p++[.sl 1 (LV.map qh) .none,.map M],vM p.vars,E0⟩:=⟨_,rfl⟩;have hcB:c.B=B:=by rw[hc]
 have hcM:c.M=M:=by rw[hc]
 have hcr:c.rest=qt p++[.sl 1 (LV.map qh) .none,.map c.M]:=by rw[hc]
 have hcm:c.mp=vM p.vars:=by rw[hc]
 have hcH:c.H0=E0:=by rw[hc]
 have hBl:=(qAm.1 bB).1;have hMl:=(qAm.1 bM).1;have h3l:=(qAm.1 b3).1;have hEl:E0.length=E.length+1:=by rw[hE0];simp
 have la:∀{k:Nat} {x:Blk},E[k]?=some x->E0[k]?=some x:=fun {k x} hq=>by rw[hE0];exact qd hq _
 have hcell:E0[E.length]?=some (.cells [.int .i64 0]):=by rw[hE0];simp
 have hbx:BX c E0 d E0:=⟨⟨.none,by rw[hcB,hcr,hcM];exact la bB⟩,by rw[hcM,hcm];exact la bM,hd,by rw[hcH];exact qFf,qFf,by rw[hcM,hcB];exact hMB,by omega,by omega,by rw[hcH];exact qAy _⟩;have hii:=qgh (T:=T) hbx (⟨hcr,hcm,hle,hvl,hvars,hnd,hlo⟩) e hbl (p1:=p1) (p2:=p2) (p3:=p3) (by rw[hcB];exact la b1) (la b2) (la b3) (by omega) (by omega);simp only[hval]at hii;have hkE:∀{bs:List Nat} {H2:List Blk},KpL bs E0 H2->KpL bs E H2:=fun {bs H2} hk=>qFg (by rw[hE0];exact qFh) hk
 refine qip (G:=zk GG) (H:=XG c) rfl (R:=InQ c d p3 E0 fun b=>val b) (by rw[show(St.push ⟨E,T⟩ (.cells [.int .i64 0]))=⟨E0,T⟩ by rw[hE0];rfl];exact hii) ?_ ?_
 . rintro v ⟨Hv,Tv⟩ ⟨d',t,H1,hH,hp3,hx,hg,htl,hv⟩;dsimp only at hH;have hq:=hx.kp.2 _ _ hcell (by simp;omega);obtain⟨tok,hb⟩:=hx.b;rw[hcB]at hb;refine⟨⟨_,by dsimp only;rw[hH,qAp (by omega)];exact hq⟩,?_,.inr ⟨rfl,d',t,tok,c.rest,?_,?_,hg,hx.ok,htl,hv⟩⟩
   . dsimp only;rw[hH];have h1:=hkE hx.kp;rw[hcB]at h1;exact(((h1.sub (by simp)).trans (qFi (by simp))).setF (qAy _)).trans qFh
   . dsimp only;rw[hH];refine qd ?_ _;rw[qAp (by omega)];exact qAt hp3
   dsimp only;rw[hH];refine qd ?_ _;rw[qAp (by omega),qAp (by omega)];exact hb
 rintro cs ⟨Hv,Tv⟩ ⟨rfl,hk⟩;dsimp only at hk⊢;rw[hcH,hcB]at hk;have hq:=hk.2 _ _ hcell (by simp;omega);refine⟨⟨_,hq⟩,2,rfl,?_,.inl rfl⟩;exact(((hkE hk).sub (by simp)).setF (qAy _)).trans qFh
def qoV(d)(hd:DagOk d)(p)(h:VQ p)(hv:qk p=0)(e)(hk:zy p.vars e=0)(ht:Jf e)(H T) :
 qg prog GG 78 [.agg (zF d),.agg (qt p),.agg (qp e)] ⟨H,T⟩ (qzw d H fun b=>!decide (yf (yg p.vars (QM p.vars (qN p) b)) e=0)):=by
 refine qEH ⟨false,qni,[],[]⟩ qe func78 rfl (by kernel_rfl) ?_;have hst:=fun H T=>qmy d hd p h hv e hk ht H T
 obtain⟨hbl,hve⟩:=VC hk ht;have henc:=qc e;simp only[zF]at hst;rw[henc]at hst⊢;obtain⟨val,hval⟩:∃val:(Nat->Bool)->Bool,∀b,(!decide (yf (yg p.vars (QM p.vars (qN p) b)) e=0))=val b:=⟨_,fun _=>rfl⟩;simp only[hval];have hin:=fun {c:Bc} {H:List Blk} {T:List (Option Nat)} (hx:BX c H d H) (hp:PB p (qN p) c) {p1 p2 p3:Nat} (b1:H[p1]?=some (.cells [.ptr c.B 0])) (b2:H[p2]?=some (.cells (qp e))) {x:AV} (b3:H[p3]?=some (.cells [x])) (h3:p3≠c.B) (h1:p1≠c.B)=>qgh (T:=T) hx hp e hbl b1 b2 b3 h3 h1
 simp only[hval]at hin;have hvars:=z0 hv;have hnd:=yN hv;have hle:=kH p;have hlo:=qkc hv;have hvl:=h.vars;generalize hLV:qN p=LV at *;simp only[qt]at hst;simp;refine qEM (hst _ _) ?_;rintro v ⟨H1,T1⟩ ⟨B,M,rfl,hB,hM,hMB,hkp,bB,bM⟩;rw[hLV]at bB;dsimp only at hkp bB bM;simp;have hBl:=(qAm.1 bB).1;have hMl:=(qAm.1 bM).1;have hHl:=hkp.1;have bE:H1[H.length+2]?=some (.cells (qp e)):=by
  refine hkp.2 _ _ ?_ (by simp);rw[henc];exact lk2
 simp at hB hM;refine qEM (qvq hd hle hvl hvars hnd hlo (E:=H1++[.cells [.ptr B 0],.cells [.int .i64 0]]) (B:=B) (M:=M) (p1:=H1.length) (p2:=H.length+2) (p3:=H1.length+1) (qd bB _) (qd bM _) hMB lk0 (qd bE _) lk1 (by omega) (by omega) hbl hval T1) ?_;rintro v ⟨H2,T2⟩ ⟨hk2,hr⟩;have cR:=hk2.2 _ _ (qd (hkp.2 _ _ lk3 (by simp)) _) (by simp;omega);have cRl:=(qAm.1 cR).1;have hkH:KpL [] H H2:=⟨by have:=hk2.1;simp at this;omega,fun k x hk _=>by
  have hkl:=(qAm.1 hk).1;exact hk2.2 _ _ (qd (hkp.2 _ _ (qd hk _) (by simp)) _) (by simp;omega)⟩
 rcases hr with rfl|⟨rfl,d2,t,tok,rest,q1,q2,q3,q4,q5,q6⟩
 . simp[-getElem?_pos,zs,zW,cR,cRl];exact⟨hkH.setF (by omega),.inl rfl⟩
 have c9:=hk2.2 _ _ (lk0 (H:=H1) (p:=Blk.cells [.ptr B 0]) (t:=[.cells [.int .i64 0]])) (by simp;omega);simp;rw[qR rfl];simp[-getElem?_pos,ze,c9,q1,q2,cR,cRl];have hq1:(H2.set (H.length+3) (.cells [.sl 3 (d2.map qH) tok]))[H1.length+1]?=some (.cells [.int .i64 (t:Int)]):=by
  rw[qAp (by omega)];exact q1
 simp[hq1,cRl];exact⟨hkH.setF (by omega),.inr ⟨d2,t,tok,rfl,q3,q4,q5,q6⟩⟩
def qik{p e a}(hb:qiz p e)(hl:a.length=p.vars.length)(hn:(p.vars.map (·.name)).Nodup):jK (yg p.vars a) e=true:=by
 unfold jK;rw[qAv];intro x hx;obtain⟨h1,h3,h24,h2,_⟩:=hb x hx;unfold qix;by_cases h:x.op=2
 . have hv:=h2 h;unfold Qf at hv;rw[qAW]at hv;obtain⟨v,hm,hvn⟩:=hv;obtain⟨i,hi⟩:=qA5 hm;have hil:=(qAm.1 hi).1;obtain⟨y,hy⟩:∃y,a[i]?=some y:=⟨_,qAo (by omega)⟩;have:=Qh hn hi hy;unfold yg;rw[if_pos h,if_pos hl,<- show v.name=x.name by simpa using hvn,this];rfl
 rw[if_neg h,if_neg (by omega)]
def qn8{p:Problem}{e a}(hk:zy p.vars e=0)(ht:Jf e)(hl:a.length=p.vars.length)(hn:(p.vars.map (·.name)).Nodup):jw (yg p.vars a) e=yf (yg p.vars a) e:=by
 obtain⟨h1,h2⟩:=VC hk ht;unfold jw;rw[if_pos ⟨h2,qik h1 hl hn⟩]
def qzJ(H:List Blk)(v:(Nat->Bool)->Bool)(r:AV)(U':St):Prop :=
 KpL [] H U'.H/\(r=.tup [.agg [.sl 0 [] .nil],.int .i64 0,.int .i64 2] \/
  ∃d t tok,r=.tup [.agg [.sl 3 (d.map qH) tok],.int .i64 (t:Nat),.int .i64 0]/\DagOk d/\t<d.length/\∀b,evD d b t=v b)
def qk4:DagOk [(20,0,0),(20,1,1)]:=⟨by simp,by simp,rfl,rfl,fun i n h hi=>by
 have:=(qAm.1 hi).1;simp at this;omega,by simp⟩
def qvO(p)(h:VQ p)(hv:qk p=0)(l)(hf:l.length<=1000000)(hx:∀e∈l,zy p.vars e=0/\Jf e)(H T) :
 qg prog GG 43 [.agg (qt p),.sl 4 (l.map qp) .none] ⟨H,T⟩ (qzJ H fun b=>kN p.vars l (QM p.vars (qN p) b)):=by
 refine qEI qe func43 rfl (by kernel_rfl) ?_;have hnd:=yN hv;have hll:=kH p;obtain⟨val,hval⟩:∃val:Ex->(Nat->Bool)->Bool,∀e b,(!decide (yf (yg p.vars (QM p.vars (qN p) b)) e=0))=val e b:=⟨_,fun _ _=>rfl⟩;have hres:∀b,kN p.vars l (QM p.vars (qN p) b)=l.all fun e=>val e b:=fun b=>by
  unfold kN;apply qBd.2;rw[qAv,qAv];refine forall_congr' fun e=>imp_congr_right fun he=>?_
  rw[qn8 (hx e he).1 (hx e he).2 (YM hll b) hnd,<- hval];simp
 simp only[hres];have htr:=fun d (hd:DagOk d) e (he:e∈l) H T=>qoV d hd p h hv e (hx e he).1 (hx e he).2 H T
 simp only[hval]at htr;simp only[qt,zF]at htr;have hnew:=qpv;simp only[zF]at hnew;simp;refine qEJ hnew (by simp) ?_;simp;refine qEZ l (fun dn ev U=>ev 1=.sl 4 (l.map qp) .none/\ev 2=.ptr H.length 0/\ev 4=.ptr (H.length+1) 0/\ev 7=.ptr (H.length+2) 0/\ev 15=.sl 4 (l.map qp) .none/\ev 16=.int .i64 l.length/\ev 17=.int .i64 dn.length /\
  KpL [] H U.H/\U.H[H.length]?=some (.cells (qt p))/\U.H[H.length+1]?=some (.cells [.sl 0 [] .nil])/\∃d t tok,ev 8=.int .i64 (t:Nat)/\U.H[H.length+2]?=some (.cells [.sl 3 (d.map qH) tok])/\DagOk d/\t<d.length/\∀b,evD d b t=dn.all fun e=>val e b) ?_ ?_ ?_
 . refine⟨by simp,by simp,by simp,by simp,by simp,by simp,by simp,qFh,?_,?_,[(20,0,0),(20,1,1)],1,.none,by simp,?_,qk4,by simp,fun b=>qeM qk4 b⟩
   . exact lk0
   . exact lk1
   . exact lk2
 . rintro dn e rest ev ⟨H1,T1⟩ R hR hd hxe hlt ⟨e1,e2,e4,e7,e15,e16,e17,hkp,bP,b4,d,t,tok,e8,b7,hdk,htl,hv1⟩;dsimp only at hkp bP b4 b7;have hem:=qAn hxe;have hdw:=wr (n:=(dn.length:Int)+1) (by omega) (by omega);have htr1:=fun H T=>(htr d hdk e hem H T)
   have henc:=qc e;rw[henc]at htr1;have h7l:=(qAm.1 b7).1;have h4l:=(qAm.1 b4).1;simp only[qt]at bP;simp[e2,e7,e15,e16,e17,show(dn.length:Int)<l.length by omega,hxe,henc,qd b7,qd bP];refine qEM ((htr1 _ _).leq (args:=[.agg [.sl 3 (d.map qH) tok],_,_]) (by simp[zn,Leq,qES])) ?_;rintro v ⟨H2,T2⟩ ⟨hk2,hr⟩;dsimp only at hk2;have up:∀{k:Nat} {x:Blk},H1[k]?=some x->H2[k]?=some x:=fun {k x} hq=>hk2.2 _ _ (qd hq _) (by simp)
   have hkH2:=hkp.trans (qFh.trans hk2);have c4:=up b4;have c4l:=(qAm.1 c4).1;rcases hr with rfl|⟨d2,f,tok2,rfl,hg2,hd2,hf2,hv2⟩
   . simp[e4,zs,zW,qd c4,ku c4];have:(H2.set (H.length+1) (.cells [.sl 0 [] .nil])++[.cells [.sl 0 [] .nil]])[H.length+1]?=some (.cells [.sl 0 [] .nil]):=qd (qAt c4l) _;simp[this];exact⟨(hkH2.setF (by omega)).trans qFh,.inl rfl⟩
   simp[e8];refine qEM ((qp6 d2 hd2 t f (qAF htl hg2.len) hf2 _ _).leq (args:=[.agg [.sl 3 (d2.map qH) tok2],.int .i64 t,.int .i64 f]) (by simp[zn,Leq,qES])) ?_;rintro v ⟨H3,T3⟩ ⟨hk3,hr3⟩;dsimp only at hk3;have up3:∀{k:Nat} {x:Blk},H1[k]?=some x->H3[k]?=some x:=fun {k x} hq=>hk3.2 _ _ (qd (up hq) _) (by simp)
   have hkH3:=hkH2.trans (qFh.trans hk3);have b11:=hk3.2 _ _ (lk0 (H:=H2) (p:=Blk.cells [.sl 3 (d2.map qH) tok2]) (t:=[])) (by simp);have b11l:=(qAm.1 b11).1;have hH2l:=hkH2.1;have c4:=up3 b4;have c7:=up3 b7;have cP:=up3 bP;have c4l:=(qAm.1 c4).1;have hH12:H1.length<=H2.length:=(by have:=hk2.1;simp at this;omega);rcases hr3 with rfl|⟨d3,i3,t3,rfl,g3,hd3,hi3,_,hs3⟩
   . have hc4:∀y,(H3.set H2.length y)[H.length+1]?=some (.cells [.sl 0 [] .nil]):=fun y=>by rw[qAp (by omega)];exact c4
     simp[e4,b11,zs,zW,hc4];have:∀y,((H3.set H2.length y).set (H.length+1) (.cells [.sl 0 [] .nil]))[H.length+1]?=some (.cells [.sl 0 [] .nil]):=fun y=>qAt (by simpa using c4l)
     simp[this];exact⟨(hkH3.setF (by omega)).setF (by omega),.inl rfl⟩
   have hc7:∀y,(H3.set H2.length y)[H.length+2]?=some (.cells [.sl 3 (d.map qH) tok]):=fun y=>by rw[qAp (by omega)];exact c7
   simp[e7,e17,b11,hc7,show ∀y,(H3.set H2.length y)[H2.length]?=some y from fun y=>qAt b11l,hdw];refine hR _ _ ⟨by simp[e1],by simp[e2],by simp[e4],by simp[e7],by simp[e15],by simp[e16],by simp,(hkH3.setF (by omega)).setF (by omega),?_,?_,d3,i3,_,by simp,qAt (by simp;have:=(qAm.1 c7).1;omega),hd3,hi3,fun b=>?_⟩
   . rw[qAp (by omega),qAp (by omega)];exact cP
   . rw[qAp (by omega),qAp (by omega)];exact c4
   rw[hs3];show(evD d2 b t&&evD d2 b f)=_;rw[hg2.ev hdk b htl,hv1,hv2,qBX];simp
 rintro ev ⟨H1,T1⟩ ⟨e1,e2,e4,e7,e15,e16,e17,hkp,bP,b4,d,t,tok,e8,b7,hdk,htl,hv1⟩;have h4l:=(qAm.1 b4).1;simp[-getElem?_pos,e4,e7,e8,e16,e17,b7,b4,h4l];exact⟨hkp.setF (by omega),.inr ⟨d,t,tok,rfl,hdk,htl,hv1⟩⟩
def qze(p:Problem)(H:List Blk)(r:AV)(U':St):Prop:=KpL [] H U'.H/\((zu p=[]/\r=.sl 4 [] .tight)\/∃b,zu p≠[]/\r=.ms b 0 (zu p).length 4/\U'.H[b]?=some (.cells ((zu p).flatMap qp))/\H.length<=b)
def qzr{α:Type}{H:List α}{p q:α}:(H++[p,q])[H.length+1]?=some q:=by rw[qAw (by omega),qBr];rfl
def qtZ(b N k)(h:k<N):zj (.ms b 0 N 4) (some (.int .i64 (k:Int))) none none=some (.ms b (k*4) (N-k) 4):=by
 show(if(0:Int)<=k/\(k:Int)<=N/\(N:Int)<=N/\((k:Int)=0\/(k:Int)<N) then some (AV.ms b (0+(k:Int).toNat*4) ((N:Int).toNat-(k:Int).toNat) 4) else if(k:Int)=N/\(N:Int)=N then some (.sl 4 [] .none) else none)=_;rw[if_pos ⟨by omega,by omega,by omega,by omega⟩];simp
def qqT(b N)(h:0<N):zj (.ms b 0 N 4) (some (.int .i64 (N:Int))) none none=some (.sl 4 [] .none):=by
 show(if(0:Int)<=N/\(N:Int)<=N/\(N:Int)<=N/\((N:Int)=0\/(N:Int)<N) then some (AV.ms b (0+(N:Int).toNat*4) ((N:Int).toNat-(N:Int).toNat) 4) else if(N:Int)=N/\(N:Int)=N then some (.sl 4 [] .none) else none)=_;rw[if_neg (by omega),if_pos ⟨rfl,rfl⟩]
def VA(p)(h:VQ p)(hd:p.dists.length<=10000)(H T):qg prog GG 72 [.agg (qt p)] ⟨H,T⟩ (qze p H):=by
 refine qEH ⟨true,[],[],[]⟩ qe func72 rfl (by kernel_rfl) ?_;have hs:=JL p h hd;have hh:=h.hard;have hsl:(jF p).length<=10000:=by
  unfold jF;split
  . simp[wa,hd]
  simp
 have hn:zu p=p.hard++jF p:=rfl;generalize jF p=S at *;obtain⟨Q,hQ⟩:∃Q,Q=qze p H:=⟨_,rfl⟩;rw[<- hQ];have fin0:p.hard++S=[]->∀u T',Q (.sl 4 [] .tight) ⟨H++u,T'⟩:=fun he u T'=>by rw[hQ];exact⟨qFh,.inl ⟨by rw[hn,he],rfl⟩⟩
 have ky:p.hard++S≠[]->∀(B0:Blk) (T':List (Option Nat)),Q (.ms (H.length+1) 0 (p.hard.length+S.length) 4) ⟨H++[B0,.cells ((p.hard++S).flatMap qp)],T'⟩:=fun he B0 T'=>by
  rw[hQ];refine⟨qFh,.inr ⟨H.length+1,by rw[hn];exact he,by rw[hn,qAq],?_,by omega⟩⟩;rw[hn];exact qzr
 simp only[qt]at hs;have hw:=wr (n:=(p.hard.length:Int)+S.length) (by omega) (by omega);by_cases h0:p.hard=[]/\S=[]
 . obtain⟨h1,h2⟩:=h0;subst h2;have fin0:=fin0 (by rw[h1];rfl);rw[h1]at hs hw;simp[h1];refine qEJ hs (by simp) ?_;simp[show IntKind.i64.wrap 0=0 by decide,mkX,qI,kj,qbq,zj,zS,y8,zU];exact fin0 _ _
 have hpos:0<p.hard.length+S.length:=by
  rcases qBJ (p.hard.length+S.length) with h|h
  . exact absurd ⟨qAA (by omega),qAA (by omega)⟩ h0
  exact h
 have hne2:p.hard++S≠[]:=by simpa using h0
 have ky:=ky hne2;have hnz:¬(p.hard.length:Int)+S.length=0:=by omega
 have hle:(p.hard.length:Int)+S.length<=549755813888:=by omega
 have hge:(0:Int)<=(p.hard.length:Int)+S.length:=by omega
 have htn:((p.hard.length:Int)+S.length).toNat=p.hard.length+S.length:=by omega
 have hmk:∀U:St,mkX (Dof prog) true U 23 (.int .i64 ((p.hard.length:Int)+S.length)) (.int .i64 ((p.hard.length:Int)+S.length))=none:=fun U=>by
  have:∀z:Int,z≠0->mkX (Dof prog) true U 23 (.int .i64 z) (.int .i64 z)=none:=fun z hz=>by
   unfold mkX;split
   . rename_i h1 _;simp at h1;exact absurd h1.2 hz
   rfl
  exact this _ hnz
 obtain⟨Z,hZ⟩:∃Z,Z=(List.replicate (p.hard.length+S.length) [AV.int .i64 0,.int .i64 0,.str [],.sl 0 [] .nil]).flatten:=⟨_,rfl⟩;have hZl:Z.length=(p.hard.length+S.length)*4:=by rw[hZ];simp
 have hAl:=Go.Abs.jq (sz:=4) zh p.hard;have h2:=qcc (p.hard.flatMap qp) (S.flatMap qp) Z (by rw[hZl,hAl,Go.Abs.jq (sz:=4) zh S,qBs]);rw[hAl,<- List.flatMap_append]at h2;have ls:∀(B0 C D:Blk),(H++[B0,C]).set (H.length+1) D=H++[B0,D]:=fun B0 C D=>by rw[qBc _ _ (by omega),qBr];rfl
 have hc1:∀B0:Blk,kj (Dof prog) ⟨H++[B0,.cells Z],T⟩ 23 (.ms (H.length+1) 0 (p.hard.length+S.length) 4) (.sl 4 (p.hard.map qp) .none)=some (.int .i64 p.hard.length,⟨H++[B0,.cells (zx Z 0 (p.hard.flatMap qp))],T⟩):=fun B0=>by
  by_cases hh0:p.hard=[]
  . simp[kj,qbq,hh0,zx]
  have hm:min p.hard.length (p.hard.length+S.length)=p.hard.length:=by omega
  have hl:p.hard.length*4<=(p.hard.length+S.length)*4:=by omega
  simp[kj,qbq,qpj,hm,hh0,show(p.hard.map qp).take p.hard.length=p.hard.map qp from qAs (by simp),show(p.hard.map qp).flatten=p.hard.flatMap qp by rw[qBM],hZl,hl,ls]
 by_cases hS0:S=[]
 . subst hS0;have hhp:0<p.hard.length:=(by simpa using hpos);have hsl2:=qqT (H.length+1) p.hard.length hhp;have hpa:zx Z 0 (p.hard.flatMap qp)=p.hard.flatMap qp:=putAt_all _ _ (by rw[hZl,hAl];simp);rw[hpa]at hc1;simp only[qBh,qBP,qBG,Int.add_zero]at hw hnz hle hge htn hZ hc1 hmk;simp only[qAZ]at hs;simp only[qA6,qBh,qBP]at ky;generalize p.hard.flatMap qp=FE at *;simp;refine qEJ hs (by simp) ?_;simp[hw,hle,hge,qAI.1 hhp,hmk,qI,<- hZ,hc1,hsl2,show ∀U:St,kj (Dof prog) U 23 (.sl 4 [] .none) (.sl 4 [] .none)=some (.int .i64 0,U) from fun U=>by simp[kj,qbq]];exact ky _ _
 have hSp:=qAI.2 hS0;have hsl2:zj (.ms (H.length+1) 0 (p.hard.length+S.length) 4) (some (.int .i64 p.hard.length)) none none=some (.ms (H.length+1) (p.hard.length*4) S.length 4):=by
  rw[qtZ _ _ _ (by omega),show p.hard.length+S.length-p.hard.length=S.length by omega]
 have hc2:∀B0:Blk,kj (Dof prog) ⟨H++[B0,.cells (zx Z 0 (p.hard.flatMap qp))],T⟩ 23 (.ms (H.length+1) (p.hard.length*4) S.length 4) (.sl 4 (S.map qp) .none)=some (.int .i64 S.length,⟨H++[B0,.cells ((p.hard++S).flatMap qp)],T⟩):=fun B0=>by
  simp[kj,qbq,qpj,hS0,show(S.map qp).take S.length=S.map qp from qAs (by simp),show(S.map qp).flatten=S.flatMap qp by rw[qBM],show(zx Z 0 (p.hard.flatMap qp)).length=(p.hard.length+S.length)*4 by rw[Kr,hZl],show p.hard.length*4+S.length*4<=(p.hard.length+S.length)*4 by omega,-List.flatMap_append,h2,ls]
 generalize (p.hard++S).flatMap qp=FE at *;generalize zx Z 0 (p.hard.flatMap qp)=Z1 at *;generalize p.hard++S=PS at *;simp;refine qEJ hs (by simp) ?_;simp[hw,hnz,hle,hge,hmk,qI,htn,<- hZ,hc1,hsl2,hc2];exact ky hne2 _ _
def qgr{α:Type}{sz:Nat}{en:α->List AV}(hl:∀x,(en x).length=sz):∀{l:List α}{i:Nat}{v:α},l[i]?=some v->((l.flatMap en).drop (i*sz)).take sz=en v
 |[],i,v,h=>by simp at h
 | a::r,0,v,h=>by
  simp at h;subst h;rw[qAO,qCl,qBz,qBx (by rw[hl];exact qAy _),qAs (by rw[hl];exact qAy _)]
 | a::r,i+1,v,h=>by
  have ih:=qgr hl (l:=r) (i:=i) (v:=v) (by simpa using h);have e:(i+1)*sz=sz+i*sz:=by rw[qCL,qCs]
  rw[qAO,e,qCe,qA3 (by rw[hl];omega),hl,qAK,qBr,ih]
def qqi(b:Nat)(H:List Blk)(v:AV)(l:List Ex):Prop:=(l=[]/\v=.sl 4 [] .tight)\/(l≠[]/\v=.ms b 0 l.length 4/\H[b]?=some (.cells (l.flatMap qp)))
def qqi.append{b H T v l}(h:qqi b H v l)(x)(hl:l.length<=1000000) :
 ∃H',zq (Dof prog) ⟨H,T⟩ 23 23 v (.sl 4 [qp x] .tight)=some (.ms H.length 0 (l.length+1) 4,⟨H',T⟩)/\qqi H.length H' (.ms H.length 0 (l.length+1) 4) (l++[x])/\(∀(k) (y),H[k]?=some y->(l=[]\/k≠b)->H'[k]?=some y)/\H.length<=H'.length:=by
 rcases h with⟨rfl,rfl⟩|⟨hne,rfl,hb⟩
 . refine⟨H++[.cells (qp x)],?_,?_,fun k y hk _=>qd hk _,by simp⟩
   . simp[zq,zX,Yv,qQ]
   . exact .inr ⟨by simp,by simp,by simp⟩
 have h1:l.length+1<=549755813888:=by omega
 have hfl:=Go.Abs.jq (sz:=4) zh l;have hle:l.length*4<=(l.flatMap qp).length:=by omega
 refine⟨H.set b .dead++[.cells (l.flatMap qp++qp x)],?_,?_,fun k y hk hkb=>?_,by simp⟩
 . rw[hfl]at hle;simp[zq,zX,Yv,qQ,hb,h1,show(l.flatMap qp).take (l.length*4)=l.flatMap qp from qAs (by omega),hfl]
 . exact .inr ⟨by simp,by simp,by simp⟩
 exact qd (by rw[qAp (Ne.symm (hkb.resolve_left hne))];exact hk) _
def qqi.len{b H v l}(h:qqi b H v l)(U):YA (Dof prog) U 23 v=some (.int .i64 (l.length:Nat)):=by
 rcases h with⟨rfl,rfl⟩|⟨_,rfl,_⟩<;>simp
def KQ(vs):∀(L) (R),∀q∈yl vs R L,q∈L
 |[],R,q,h=>by simp[yl]at h
 | x::r,R,q,h=>by
  unfold yl at h;split at h
  . rcases qAM.1 h with rfl|h
    . simp
    . exact qBT _ (KQ vs r _ q h)
  exact qBT _ (KQ vs r _ q h)
def KR(vs):∀(L) (R),(yl vs R L).length<=L.length
 |[],R=>by simp[yl]
 | x::r,R=>by
  unfold yl;split
  . have:=KR vs r (R++[x.2]);simp;omega
  have:=KR vs r R;simp;omega
def qnp{l q}(h:q∈Zg l):∃k:Nat,q.1=k/\l[k]?=some q.2:=by
 obtain⟨k,hk⟩:=qA5 h;obtain⟨_,h2,h3⟩:=qen hk;exact⟨_,h2,h3⟩
def qet{p q}(h:q∈Zh p):∃k:Nat,q.1=k/\p.soft[k]?=some q.2:=qnp (KQ _ _ _ q (by simpa[Zh] using h))
def qaK(p):(Zh p).length<=p.soft.length:=by
 unfold Zh;rw[qDD];exact qBf (KR _ _ _) (by rw[qaz];exact qAy _)
noncomputable def qE(p:Problem):List Ex×Int :=
 if qk p=0 then(if jO p.vars (zu p)=true then(qjo p,0) else([],11)) else([],1)
def wL(p):(qE p).2=(yK p).2:=by
 unfold qE yK;split
 . split<;>rfl
 rfl
def vU{p}(h:(yK p).2=0):qk p=0/\jO p.vars (zu p)=true/\qE p=(zu p++(Zh p).map (·.2),0)/\(yK p).1=(Zh p).map (·.1):=by
 unfold yK at h;split at h
 . rename_i hv;split at h
   . rename_i hs;have hn:zu p=qep p:=by
      show p.hard++jF p=_;rw[jF,if_pos hv];rfl
     refine⟨hv,hs,?_,?_⟩
     . unfold qE qjo;rw[if_pos hv,if_pos hs,hn]
     unfold yK Zh;rw[if_pos hv,if_pos hs,hn]
   simp at h
 simp at h
def qlT(p)(h:VQ p)(hv20:p.vars.length<=20)(hb:kl p.vars (qK p)<=18)(hd:p.dists.length<=10000)(hs5:p.soft.length<=10000) :
 Pure prog GG 40 [.agg (qt p)] (.tup [.sl 4 ((qE p).1.map qp) .none,.int .i64 (qE p).2]):=by
 have hkp:=qlY p h hv20 hb hd hs5;by_cases he:(yK p).2=0
 case neg=>
  have hre:=wL p;have hr0:(qE p).1=[]:=by
   unfold qE yK at *;split
   . rename_i hv;split
     . rename_i hs;rw[if_pos hv,if_pos hs]at he;exact absurd rfl he
     rfl
   rfl
  rw[hr0,hre];refine qEF o0 true qe func40 rfl (by kernel_rfl) ?_;simp only[qt]at hkp;simp;refine qEJ hkp (by simp) ?_;simp[he];rw[qA (by simp)];exact⟨by simp,by simp[Leq,zn]⟩
 obtain⟨hv,hs,hrr,hk1⟩:=vU he;rw[hk1,he]at hkp;rw[hrr];dsimp only;have hkl:=qaK p;have hka:=fun q (hq:q∈Zh p)=>qet hq
 generalize hKS:Zh p=KS at *;refine qEF ⟨true,[],[],[]⟩ true qe func40 rfl (by kernel_rfl) ?_;have hnd:=VA p h hd [.cells (qt p)] [];have hknow:=v7 h hv;have h1:=h.hard;have h2:(jF p).length<=10000:=by
  have:jF p=wa p:=if_pos hv;rw[this,wa,qAY];exact hd
 have hNl:(zu p).length<=20000:=by rw[zu,qAq];omega
 obtain⟨RES,hRES⟩:∃RES,RES=zu p++KS.map (·.2):=⟨_,rfl⟩;have hRt:∀e∈RES,(pre e).length<=100000:=fun e hm=>by
  rw[hRES]at hm;rcases qAC.1 hm with hm|hm
  . exact(hknow e (qA7 _ hm)).2.2.2
  obtain⟨q,hq,rfl⟩:=qAN.1 hm;obtain⟨k,_,hk⟩:=hka q hq;exact(hknow q.2 (qBA _ (qAn hk))).2.2.2
 rw[<- hRES];simp only[qt]at hkp hnd;simp;refine qEJ hkp (by simp) ?_;simp;refine qEM hnd ?_;rintro v ⟨H1,T1⟩ ⟨hk,hr⟩;have bP:H1[0]?=some (.cells (qt p)):=hk.2 0 _ (by simp[qt]) (by simp);obtain⟨b,ho,hb0⟩:∃b,qqi b H1 v (zu p)/\b≠0:=by
  rcases hr with⟨hn,rfl⟩|⟨b,hne,rfl,hb1,hb2⟩
  . exact⟨1,.inl ⟨hn,rfl⟩,by omega⟩
  exact⟨b,.inr ⟨hne,rfl,hb1⟩,by simp at hb2;omega⟩
 clear hr hk;generalize zu p=N at *;simp;refine qEZ KS (fun d ev U=>ev 1=.ptr 0 0/\ev 20=.sl 1 (KS.map fun q=>[AV.int .i64 q.1]) .none/\ev 21=.int .i64 KS.length/\ev 22=.int .i64 d.length/\∃H b T,U=⟨H,T⟩/\H[0]?=some (.cells (qt p))/\b≠0/\qqi b H (ev 6) (N++d.map (·.2))) ?_ ?_ ?_
 . refine⟨by simp,by simp,by simp,by simp,H1,b,T1,rfl,bP,hb0,by simpa using ho⟩
 . rintro d q rest ev U R hR hdl hx hlt ⟨e1,e20,e21,e22,H,b,T,rfl,bP,hb0,ho⟩;have hdw:=wr (n:=(d.length:Int)+1) (by omega) (by omega);have hlt':(d.length:Int)<KS.length:=(by omega);obtain⟨k,hk1,hk2⟩:=hka q (qAn hx);have hkl2:=(qAm.1 hk2).1;obtain⟨H',hap,ho',hkeep,hlen⟩:=ho.append (T:=T) q.2 (by rw[qAq,qAY];omega);have hHl:=(qAm.1 bP).1;have ha:=yF q.2;have hl4:=zh q.2;have htk:(qp q.2).take 4=qp q.2:=qAs (by rw[hl4];exact qAy _);have bP2:=hkeep 0 _ bP (by right;exact Ne.symm hb0);simp only[qt]at bP;generalize hv6:ev 6=v6 at *;simp[-qV,e1,e20,e21,e22,hlt',hx,hk1,hk2,bP,htk,ha,hl4,qf,qm,hap,hv6,hdw];refine hR _ _ ⟨by simp[e1],by simp[e20],by simp[e21],by simp,H',H.length,T,rfl,bP2,by omega,?_⟩;rw[show N++(d++[q]).map (·.2)=N++d.map (·.2)++[q.2] by simp];simpa using ho'
 rintro ev U ⟨e1,e20,e21,e22,H,b,T,rfl,bP,hb0,ho⟩;rw[<- hRES]at ho;have hlen:=ho.len ⟨H,T⟩;have hRl:RES.length<=1000000:=by rw[hRES,qAq,qAY];omega
 generalize hv6:ev 6=v6 at *;simp[-YA,e21,e22,hv6,hlen];refine qEZ RES (fun d ev U=>ev 6=v6/\ev 36=.int .i64 RES.length/\ev 37=.int .i64 d.length/\∃H T,U=⟨H,T⟩/\qqi b H v6 RES) ?_ ?_ ?_
 . exact⟨by simp[hv6],by simp,by simp,H,T,rfl,ho⟩
 . rintro d x rest ev U R hR hdl hx hlt ⟨e6,e36,e37,H,T,rfl,ho⟩;have hdw:=wr (n:=(d.length:Int)+1) (by omega) (by omega);have hlt':(d.length:Int)<RES.length:=(by omega);have hcp:=qk6 x (hRt x (qAn hx));rcases ho with⟨h0,_⟩|⟨hne,rfl,hbk⟩
   . rw[h0]at hx;simp at hx
   have hfl:=Go.Abs.jq (sz:=4) zh RES;have hl4:=zh x;have ha:=yF x;have hput:zx (RES.flatMap qp) (d.length*4) (qp x)=RES.flatMap qp:=by
    rw[QA zh RES d.length x hlt];have:RES.set d.length x=RES:=by
     apply qBn;intro j;by_cases hj:d.length=j
     . subst hj;rw[qAt hlt,hx]
     rw[qAp hj]
    rw[this]
   have hcut:((RES.flatMap qp).drop (d.length*4)).take 4=qp x:=qgr zh hx;have hfit:d.length*4+4<=RES.length*4:=(by omega);have hset:H.set b (.cells (RES.flatMap qp))=H:=by
    apply qBn;intro j;by_cases hj:b=j
    . subst hj;rw[qAt (qAm.1 hbk).1,hbk]
    rw[qAp hj]
   generalize hFF:RES.flatMap qp=F at *;simp[-qV,e6,e36,e37,hlt',hbk,hfl,hfit,hcut];refine qEJ hcp (by simp) ?_;simp[-qV,e37,hlt',hbk,hfl,hfit,hl4,ha,hput,hset,hdw];exact hR _ _ ⟨by simp[e6],by simp[e36],by simp,H,T,rfl,.inr ⟨hne,rfl,by rw[hFF];exact hbk⟩⟩
 rintro ev U ⟨e6,e36,e37,H,T,rfl,ho⟩;simp[e6,e36,e37];rcases ho with⟨h0,rfl⟩|⟨hne,rfl,hbk⟩
 . rw[h0];have hf:frz H 7 (.sl 4 [] .tight)=.sl 4 [] .tight:=qA rfl;exact wy (by rw[hf];rfl) (by rw[hf];simp[Leq]) (by simp[Leq])
 have hoo:jx b 4 qp H (.ms b 0 RES.length 4) RES:=.inr ⟨hne,rfl,hbk⟩;exact wy (hoo.frzNo zh (fun x=>nrE x) jr 6) (hoo.frz zh (fun x=>nrE x) jr 6) (by simp)
def qzz(l:List Ex)(H:List Blk)(r:AV)(U':St):Prop:=∃tok,r=.tup [.sl 4 (l.map qp) tok,.int .i64 0]/\(l≠[]\/tok=.tight)/\KpL [] H U'.H
def qoX(p)(h:VQ p)(hv20:p.vars.length<=20)(hb:kl p.vars (qK p)<=18)(hd:p.dists.length<=10000)(hs5:p.soft.length<=10000)(he:(qE p).2=0)(H T) :
 qg prog GG 40 [.agg (qt p)] ⟨H,T⟩ (qzz (qE p).1 H):=by
 by_cases hR:(qE p).1=[]
 case neg=>
  refine qg.call (qlT p h hv20 hb hd hs5) (by simp) ?_;rw[he];exact⟨.none,rfl,.inl hR,qFf⟩
 have hkp:=qlY p h hv20 hb hd hs5;rw[wL]at he;obtain⟨hv,hs,hrr,hk1⟩:=vU he;rw[hrr]at hR;have hR:zu p=[]/\Zh p=[]:=by simpa using hR
 rw[hrr,hR.1,hR.2];rw[hk1,he,hR.2]at hkp;have hnd:=fun H T=>VA p h hd H T
 refine qEH ⟨true,[],[],[]⟩ qe func40 rfl (by kernel_rfl) ?_;simp only[qt]at hkp hnd;simp[-getElem?_pos];refine qEJ hkp (by simp) ?_;simp[-getElem?_pos];refine qEM (hnd _ _) ?_;rintro v ⟨H1,T1⟩ ⟨hk,hr⟩;dsimp only at hk;rcases hr with⟨_,rfl⟩|⟨b,hne,_⟩
 case inr=>exact absurd hR.1 hne
 simp[-getElem?_pos];refine qEO (fun m ev U=>ev 6=.sl 4 [] .tight/\ev 21=.int .i64 0/\ev 22=.int .i64 0/\KpL [] H U.H) 0 ⟨by simp,by simp,by simp,qFh.trans hk⟩ ?_;rintro m ev ⟨H2,T2⟩ R hRR ⟨e6,e21,e22,hk2⟩;simp[-getElem?_pos,e6,e21,e22];refine qEO (fun m ev U=>ev 6=.sl 4 [] .tight/\ev 36=.int .i64 0/\ev 37=.int .i64 0/\KpL [] H U.H) 0 ⟨by simp[e6],by simp,by simp,hk2⟩ ?_;rintro m ev ⟨H3,T3⟩ R hRR ⟨e6,e36,e37,hk3⟩;simp[-getElem?_pos,e6,e36,e37];exact⟨.tight,rfl,.inr rfl,hk3⟩
end Go.Proofs.YtafbccendejkeaaGreatDoor
namespace Go.Abs
def jh{α:Type}(f:α->Nat):List α->Nat
 |[]=>0
 |a::r=>f a+jh f r
section
variable {α β:Type}
def Q7(f):∀l m:List α,jh f (l++m)=jh f l+jh f m
 |[],m=>by simp[jh]
 |a::r,m=>by simp only[List.cons_append,jh,Q7 f r m];omega
def JS(f:β->Nat)(g:α->List β):∀l:List α,jh f (l.flatMap g)=jh (fun a=>jh f (g a)) l
 |[]=>rfl
 |a::r=>by simp only[List.flatMap_cons,Q7,jh,JS f g r]
def yo{f g}:∀{l:List α},(∀a∈l,f a=g a)->jh f l=jh g l
 |[],_=>rfl
 |a::r,h=>by simp only[jh];rw[h a (by simp),yo fun x hx=>h x (by simp[hx])]
def qah(c f):∀l:List α,jh (fun a=>c*f a) l=c*jh f l
 |[]=>by simp[jh]
 |a::r=>by simp only[jh,qah c f r,Nat.mul_add]
def Zw{f}:∀{l:List α},(∀a∈l,f a=0)->jh f l=0
 |[],_=>rfl
 |a::r,h=>by simp only[jh];rw[h a (by simp),Zw fun x hx=>h x (by simp[hx])]
def qi4{f:α->Nat}{l:List α}{a:α}(h:a∈l):f a<=jh f l:=by
 induction l with
 |nil=>cases h
 | cons b r ih=>
  rcases List.mem_cons.1 h with rfl|h
  . simp only[jh];omega
  have:=ih h;simp only[jh];omega
end
section
variable {α:Type}
end
def lim:Nat:=1099511627777
def sat(n:Nat):Nat:=min n lim
def Ke(n):sat n<=lim:=Nat.min_le_right _ _
def qqY(a b):sat (sat a+sat b)=sat (a+b):=by unfold sat lim;omega
def qqX(a b):sat (sat a*sat b)=sat (a*b):=by
 have key:∀x y:Nat,lim<=x->0<y->lim<=x*y:=fun x y hx hy=>Nat.le_trans hx (Nat.le_mul_of_pos_right x hy)
 have top:∀x:Nat,lim<=x->sat x=lim:=fun x h=>Nat.min_eq_right h
 have low:∀x:Nat,x<=lim->sat x=x:=fun x h=>Nat.min_eq_left h
 have lp:0<lim:=by unfold lim;omega
 rcases Nat.eq_zero_or_pos a with rfl|ha0
 . simp[sat]
 rcases Nat.eq_zero_or_pos b with rfl|hb0
 . simp[sat]
 by_cases ha:a<=lim
 . rw[low a ha];by_cases hb:b<=lim
   . rw[low b hb]
   rw[top b (by omega),top (a*lim) (by rw[Nat.mul_comm];exact key _ _ (Nat.le_refl _) ha0),top (a*b) (by rw[Nat.mul_comm];exact key _ _ (by omega) ha0)]
 rw[top a (by omega),top (a*b) (key _ _ (by omega) hb0)];refine top _ (key _ _ (Nat.le_refl _) ?_);unfold sat;omega
def Zb{n}:sat n=0↔n=0:=by unfold sat lim;omega
def qt9{n}(h:sat n≠lim):sat n=n:=by unfold sat at *;omega
end Go.Abs
namespace Go.Proofs.YtafbccendejkeaaGreatDoor
open Go Go.Abs Go.RowKit Tryz
def qt5{w:Int}(h0:0<=w)(h1:w<=30):IntKind.i64.wrap ((2:Int)^min w.toNat IntKind.i64.bits)=((2^w.toNat:Nat):Int):=by
 have e:min w.toNat IntKind.i64.bits=w.toNat:=qBL (by show w.toNat<=64;omega);rw[e];have:2^w.toNat<=2^30:=qAV (by omega) (by omega);rw[show(2:Int)^w.toNat=((2^w.toNat:Nat):Int) by simp];generalize 2^w.toNat=N at *;exact wr (by omega) (by omega)
def qkg(w):Pure prog GG 260 [.agg (qw w)] (.int .i64 (if w.each=true then 1 else 0)):=by
 refine qEG qe func260 rfl (by kernel_rfl) ?_;cases h:w.each<;>simp[h]
def quM(w):Pure prog GG 186 [.agg (qw w),.int .u8 115] (.bool (!w.each)):=by
 obtain⟨lo,hi,wt,each⟩:=w;have hk:=qkg ⟨lo,hi,wt,each⟩;refine qEG qe func186 rfl (by kernel_rfl) ?_;cases each
 all_goals
  simp at hk;simp;refine qEJ hk (by simp) ?_;simp;refine qEJ hk (by simp) ?_;simp
def quN(w):Pure prog GG 186 [.agg (qw w),.int .u8 101] (.bool w.each):=by
 obtain⟨lo,hi,wt,each⟩:=w;have hk:=qkg ⟨lo,hi,wt,each⟩;refine qEG qe func186 rfl (by kernel_rfl) ?_;cases each
 all_goals
  simp at hk;simp;refine qEJ hk (by simp) ?_;simp;refine qEJ hk (by simp) ?_;simp
def qfd(w)(h0:0<=w.lo)(h1:w.lo<=w.hi)(h2:w.hi<=65535):Pure prog GG 188 [.agg (qw w)] (.int .i64 (w.hi-w.lo+1)):=by
 refine qEG qe func188 rfl (by kernel_rfl) ?_;simp[show IntKind.i64.wrap (w.hi-w.lo)=w.hi-w.lo from wr (by omega) (by omega),show IntKind.i64.wrap (w.hi-w.lo+1)=w.hi-w.lo+1 from wr (by omega) (by omega)]
def qio(N:Int)(w:Weight):Bool:=decide (w.lo<0)||decide (w.hi<w.lo)||decide (N-1<w.hi)||decide (w.weight<0)||decide (1000<w.weight)
def yn(l:List Weight)(width:Int):Int :=
 if width<1\/8<width then 1 else if 16<l.length then 2 else if l.length=0 then 1 else if l.any (qio ((2^width.toNat:Nat):Int))=true then 1 else 0
def qkV(l)(hl:Fits l)(width):Pure prog GG 183 [.sl 4 (l.map qw) .none,.int .i64 width] (.int .i64 (yn l width)):=by
 refine qEG qe func183 rfl (by kernel_rfl) ?_;generalize hr:yn l width=r;unfold yn at hr;by_cases hw:width<1\/8<width
 . rw[if_pos hw]at hr;subst hr;rcases hw with h|h
   . simp[h]
   have:¬width<1:=by omega
   simp[h,this]
 rw[if_neg hw]at hr;have h1:¬width<1:=by omega
 have h2:¬8<width:=by omega
 have hsh:=qt5 (w:=width) (by omega) (by omega);by_cases hb:16<l.length
 . rw[if_pos hb]at hr;subst hr;have hb':(16:Int)<l.length:=(by omega);simp[h1,h2,hb']
 rw[if_neg hb]at hr;by_cases hz:l.length=0
 . rw[if_pos hz]at hr;subst hr;have hz':=qAA hz;subst hz';simp[h1,h2]
 rw[if_neg hz]at hr;have hNb:2^width.toNat<=2^8:=qAV (by omega) (by omega);have hNp:0<2^width.toNat:=Nat.pow_pos (by omega);generalize 2^width.toNat=N at hr hsh hNb hNp;have hz':l≠[]:=fun e=>hz (by rw[e];rfl)
 simp[h1,h2,show ¬(16:Int)<l.length by omega,hz'];refine qEZ l (fun d ev U=>ev 0=.sl 4 (l.map qw) .none/\ev 1=.int .i64 width/\ev 22=.sl 4 (l.map qw) .none/\ev 23=.int .i64 l.length/\ev 24=.int .i64 d.length/\d.any (qio N)=false) ?_ ?_ ?_
 . simp
 . rintro d w rest ev U R hR hd hx hlt ⟨e0,e1,e22,e23,e24,ha⟩;have hbad:qio N w=true->r=1:=fun h=>by
    have:l.any (qio N)=true:=by rw[hd];simp[h]
    rw[if_pos this]at hr;exact hr.symm
   simp[-getElem?_pos,e1,e22,e23,e24,hlt,hx,show ¬width<0 by omega,hsh,show IntKind.i64.wrap ((N:Int)-1)=N-1 from wr (by omega) (by omega),show IntKind.i64.wrap ((d.length:Int)+1)=(d.length+1:Nat) by rw[wr (by omega) (by omega)];omega]
   repeat' first|(with_reducible refine And.intro ?_ ?_)|(intro _)
   all_goals first
    |exact(hbad (by unfold qio;simp;omega)).symm
    |exact hR _ _ ⟨by simp[e0],by simp[e1],by simp[e22],by simp[e23],by simp,by simp[qio,ha];omega⟩
 rintro ev U ⟨e0,e1,e22,e23,e24,ha⟩;rw[if_neg (by rw[ha];simp)]at hr;subst hr;simp[e23,e24]
def JX(l:List Weight)(v:Int):Option Weight:=l.find? fun w=>decide (w.lo<=v)&&decide (v<=w.hi)
def qnm(l)(hl:Fits l)(v):Pure prog GG 185 [.sl 4 (l.map qw) .none,.int .i64 v]
 (match JX l v with|some w=>.tup [.agg (qw w),.bool true]|none=>.tup [.agg (qw ⟨0,0,0,false⟩),.bool false]):=by
 refine qEG qe func185 rfl (by kernel_rfl) ?_;generalize hr:JX l v=r;unfold JX at hr;simp;refine qEZ l (fun d ev U=>ev 0=.sl 4 (l.map qw) .none/\ev 1=.int .i64 v/\ev 4=.ptr 0 0/\ev 8=.sl 4 (l.map qw) .none/\ev 9=.int .i64 l.length/\ev 10=.int .i64 d.length/\(∃t,U=⟨.cells (qw ⟨0,0,0,false⟩)::t,[]⟩)/\∀w∈d,¬(w.lo<=v/\v<=w.hi)) ?_ ?_ ?_
 . simp
 . rintro d w rest ev U R hR hd hx hlt ⟨e0,e1,e4,e8,e9,e10,⟨t,rfl⟩,ha⟩;by_cases hc:w.lo<=v/\v<=w.hi
   . have:r=some w:=by
      rw[<- hr,hd,qDU,qCV.2 (fun x hx=>by have:=ha x hx;simp;omega)];simp[hc]
     subst this;simp[-getElem?_pos,e1,e4,e8,e9,e10,hlt,hx,hc]
   have hgo:=hR;simp[-getElem?_pos,e1,e4,e8,e9,e10,hlt,hx,show IntKind.i64.wrap ((d.length:Int)+1)=(d.length+1:Nat) by rw[wr (by omega) (by omega)];omega]
   repeat' first|(with_reducible refine And.intro ?_ ?_)|(intro _)
   all_goals first
    |(exfalso;omega)
    | exact hR _ _ ⟨by simp[e0],by simp[e1],by simp[e4],by simp[e8],by simp[e9],by simp,⟨_,rfl⟩,fun x hx=>by
     rcases qAC.1 hx with h|h
     . exact ha x h
     simp at h;subst h;exact hc⟩
 rintro ev U ⟨e0,e1,e4,e8,e9,e10,⟨t,rfl⟩,ha⟩;have:r=none:=by
  rw[<- hr,qCV];intro x hx;have:=ha x hx;simp;omega
 subst this;simp[-getElem?_pos,e4,e9,e10]
def wsz(w:Weight):Nat:=(w.hi-w.lo+1).toNat
def WOk(l:List Weight):Prop:=∀w∈l,0<=w.lo/\w.lo<=w.hi/\w.hi<=255/\0<=w.weight/\w.weight<=1000
def vP{l width}(h:yn l width=0):WOk l/\l.length<=16/\l≠[]:=by
 unfold yn at h;split at h
 . cases h
 rename_i hw;split at h
 . cases h
 split at h
 . cases h
 rename_i h1 h2;split at h
 . cases h
 rename_i hb;refine⟨fun w hw=>?_,by omega,fun e=>h2 (by rw[e];rfl)⟩;have hNb:2^width.toNat<=2^8:=qAV (by omega) (by omega);generalize 2^width.toNat=N at *;simp only[qAW,not_exists,not_and,Bool.not_eq_true]at hb;have:=hb w hw;unfold qio at this;simp at this;omega
def zK:List Weight->Nat->Int×Int
 |[],s=>(s,0)
 |w::r,s=>if w.each=true then zK r s else if Nat.lcm s (wsz w)<9223372036854775808 then zK r (Nat.lcm s (wsz w)) else(0,3)
def Jg{w}(h:w.lo<=w.hi):0<wsz w:=by unfold wsz;omega
def qmF(l)(hl:l.length<=1000)(hw:WOk l):Pure prog GG 184 [.sl 4 (l.map qw) .none] (.tup [.int .i64 (zK l 1).1,.int .i64 (zK l 1).2]):=by
 refine qEG qe func184 rfl (by kernel_rfl) ?_;generalize hr:zK l 1=r;simp;refine qEZ l (fun d ev U=>ev 0=.sl 4 (l.map qw) .none/\ev 8=.sl 4 (l.map qw) .none/\ev 9=.int .i64 l.length/\ev 10=.int .i64 d.length/\∃s:Nat,ev 4=.int .i64 s/\0<s/\s<9223372036854775808/\zK (l.drop d.length) s=r) ?_ ?_ ?_
 . exact⟨by simp,by simp,by simp,by simp,1,by simp,by omega,by omega,by simpa using hr⟩
 . rintro d w rest ev U R hR hd hx hlt ⟨e0,e8,e9,e10,s,e4,hs0,hs1,hsc⟩;have hdw:IntKind.i64.wrap ((d.length:Int)+1)=(d.length+1:Nat):=(by rw[wr (by omega) (by omega)];omega);obtain⟨w0,w1,w2,w3,w4⟩:=hw w (qAn hx);rw[show l.drop d.length=w::l.drop (d.length+1) by rw[hd];simp]at hsc;have hwp:=Jg w1;have hsz:(wsz w:Int)=w.hi-w.lo+1:=(by unfold wsz;omega);have h1:=quM w;have h2:=qfd w w0 w1 (by omega);have h3:=quG s (wsz w) hs0 hwp hs1 (by omega);rw[hsz]at h3;have hlp:=Nat.lcm_pos hs0 hwp;have hgo:∀(s':Nat) (ev':Env) (U':St),0<s'->s' < 9223372036854775808->zK (l.drop (d.length+1)) s'=r->ev' 0=.sl 4 (l.map qw) .none->ev' 8=.sl 4 (l.map qw) .none->ev' 9=.int .i64 l.length->ev' 10=.int .i64 (d.length+1:Nat)->ev' 4=.int .i64 s'->R ev' U':=fun s' ev' U' a1 a2 a3 a4 a5 a6 a7 a8=>
    hR _ _ ⟨a4,a5,a6,by simpa using a7,s',a8,a1,a2,by simpa using a3⟩
   obtain⟨lo,hi,wt,each⟩:=w;simp[-getElem?_pos,e8,e9,e10,hlt,hx];refine qEJ h1 (by simp) ?_;cases each
   . simp only[zK,qAP,if_false]at hsc;simp[e4];refine qEJ h2 (by simp) ?_;simp;refine qEJ h3 (by simp) ?_;generalize Nat.lcm s (wsz ⟨lo,hi,wt,false⟩)=L at hsc hlp⊢;by_cases hL:L<9223372036854775808
     . rw[if_pos hL]at hsc;simp[J2,hL,e10,hdw];exact hgo L _ _ hlp hL hsc (by simp[e0]) (by simp[e8]) (by simp[e9]) (by simp) (by simp)
     rw[if_neg hL]at hsc;subst hsc;simp[J2,hL]
   simp only[zK,if_true]at hsc;simp[e10,hdw];exact hgo s _ _ hs0 hs1 hsc (by simp[e0]) (by simp[e8]) (by simp[e9]) (by simp) (by simp[e4])
 rintro ev U ⟨e0,e8,e9,e10,s,e4,hs0,hs1,hsc⟩;rw[qBk]at hsc;simp only[zK]at hsc;subst hsc;simp[e9,e10,e4]
def y9:∀(l) (s),WOk l->0<s->s<9223372036854775808->((zK l s).2=0/\0<(zK l s).1/\(zK l s).1<9223372036854775808)\/zK l s=(0,3)
 |[],s,_,h0,h1=>.inl ⟨rfl,by simp only[zK];omega,by simp only[zK];omega⟩
 | w::r,s,hw,h0,h1=>by
  have hr:WOk r:=fun x hx=>hw x (by simp[hx])
  have hwp:=Jg (hw w (by simp)).2.1;simp only[zK];split
  . exact y9 r s hr h0 h1
  split
  . rename_i h;exact y9 r _ hr (Nat.lcm_pos h0 hwp) h
  exact .inr rfl
def vJ(l:List Weight)(s:Nat)(v:Int):Int×Int:=match JX l v with
 |none=>(0,0)
 |some w=>if w.each=true then J2 (w.weight.toNat*s) else J2 (w.weight.toNat*(s/wsz w))
def qiD(l:List Weight)(hl:l.length<=1000)(hw:WOk l)(s:Nat)(hs:s<9223372036854775808)(v:Int):Pure prog GG 129 [.sl 4 (l.map qw) .none,.int .i64 s,.int .i64 v] (.tup [.int .i64 (vJ l s v).1,.int .i64 (vJ l s v).2]):=by
 have ho:=qnm l (by unfold Fits;omega) v;refine qEG qe func129 rfl (by kernel_rfl) ?_;generalize hr:vJ l s v=r;unfold vJ at hr;simp;refine qEJ ho (by simp) ?_
 cases hf:JX l v with
 | none=>
  rw[hf]at hr;simp only at hr;subst hr;simp
 | some w=>
  rw[hf]at hr;simp only at hr;obtain⟨w0,w1,w2,w3,w4⟩:=hw w (qD1 hf);have h1:=quN w;have h2:=qfd w w0 w1 (by omega);have hwp:=Jg w1;rw[<- show(wsz w:Int)=w.hi-w.lo+1 by unfold wsz;omega]at h2;obtain⟨k,hk⟩:∃k:Nat,w.weight=k:=⟨w.weight.toNat,by omega⟩;have hm1:=qjW k s (by omega) hs;have hq:s/wsz w<=s:=qBy _ _;have hm2:=qjW k (s/wsz w) (by omega) (by omega);rw[show w.weight.toNat=k by omega]at hr;generalize hz:wsz w=z at *;obtain⟨q,hqe⟩:∃q,s/z=q:=⟨_,rfl⟩;have hdiv:(s:Int).tdiv z=q:=by
   rw[qBN (by omega)];omega
  rw[hqe]at hm2 hr hq;have hqu:=wr (n:=q) (by omega) (by omega);obtain⟨lo,hi,wt,each⟩:=w;simp only at hk;subst hk;cases each
  . simp only[qAP,if_false]at hr;subst hr;simp;refine qEJ h1 (by simp) ?_;simp;refine qEJ h2 (by simp) ?_;simp[show ¬z=0 by omega,hdiv,hqu];refine qEJ hm2 (by simp) ?_;simp
  simp only[if_true]at hr;subst hr;simp;refine qEJ h1 (by simp) ?_;simp;refine qEJ hm1 (by simp) ?_;simp
def qmG(l)(hl:l.length<=1000):Pure prog GG 128 [.sl 4 (l.map qw) .none]
 (.tup [.int .i64 (if yn l 8=0 then(zK l 1).1 else 0),.int .i64 (if yn l 8=0 then(zK l 1).2 else yn l 8)]):=by
 have hv:=qkV l (by unfold Fits;omega) 8;refine qEG qe func128 rfl (by kernel_rfl) ?_;simp;refine qEJ hv (by simp) ?_;by_cases h:yn l 8=0
 . simp[h];refine qEJ (qmF l hl (vP h).1) (by simp) ?_;simp
 simp[h]
def zR(l:List Weight)(v:Int):Int×Int :=
 if yn l 8≠0 then(0,yn l 8) else if(zK l 1).2≠0 then(0,(zK l 1).2) else vJ l (zK l 1).1.toNat v
def qmb(l)(hl:l.length<=1000)(v):Pure prog GG 76 [.sl 4 (l.map qw) .none,.int .i64 v] (.tup [.int .i64 (zR l v).1,.int .i64 (zR l v).2]):=by
 have hs:=qmG l hl;refine qEG qe func76 rfl (by kernel_rfl) ?_;generalize hr:zR l v=r;unfold zR at hr;simp;refine qEJ hs (by simp) ?_;by_cases h:yn l 8=0
 . have hw:=(vP h).1;rw[if_neg (by simp[h])]at hr;rcases y9 l 1 hw (by omega) (by omega) with⟨h1,h2,h3⟩|h1
   . rw[if_neg (by simp[h1])]at hr;have he:=qiD l hl hw (zK l 1).1.toNat (by omega) v;rw[show(((zK l 1).1.toNat:Nat):Int)=(zK l 1).1 by omega]at he;simp[h,h1];refine qEJ he (by simp) ?_;subst hr;simp
   rw[h1]at hr;simp at hr;subst hr;simp[h,h1]
 rw[if_pos h]at hr;subst hr;simp[h]
def Vd(n):sat n=min n 1099511627777:=rfl
def qjF(a b)(ha:a<=lim)(hb:b<=lim):Pure prog GG 138 [.int .i64 a,.int .i64 b] (.int .i64 (sat (a+b):Nat)):=by
 refine qEG qe func138 rfl (by kernel_rfl) ?_;unfold lim at ha hb;have hw:=wr (n:=(a:Int)+b) (by omega) (by omega);have hm:wQ (.int .i64 ((a:Int)+b)) (.int .i64 1099511627777)=some (.int .i64 (sat (a+b):Nat)):=by
  simp only[wQ,Vd];congr 2;split<;>omega
 simp[-getElem?_pos,hw,hm]
def qae(a b)(ha:a<=lim)(hb:b<=lim):Pure prog GG 68 [.int .i64 a,.int .i64 b] (.int .i64 (sat (a*b):Nat)):=by
 refine qEG qe func68 rfl (by kernel_rfl) ?_;unfold lim at ha hb;by_cases h1:a=0
 . subst h1;simp[-getElem?_pos,Vd]
 by_cases h2:b=0
 . subst h2;simp[-getElem?_pos,h1,Vd]
 have hq:(1099511627777:Int).tdiv (b:Int)=((1099511627777/b:Nat):Int):=by
  rw[qBN (by omega)];simp
 have hqle:1099511627777/b<=1099511627777:=qBy _ _;have hwq:IntKind.i64.wrap ((1099511627777/b:Nat):Int)=((1099511627777/b:Nat):Int):=by
  generalize 1099511627777/b=q at *;exact wr (by omega) (by omega)
 have h2':¬(b:Int)=0:=by omega
 have h1':¬(a:Int)=0:=by omega
 by_cases hgt:1099511627777/b<a
 . have hgt':((1099511627777/b:Nat):Int)<(a:Int):=Int.ofNat_lt.2 hgt;have hs:sat (a*b)=1099511627777:=by
    have:1099511627777<a*b:=(qEr (by omega)).1 hgt;rw[Vd];omega
   generalize 1099511627777/b=q at *;simp[-getElem?_pos,-zw,Vu,qpr,h1,h2,hs,show zw .quo .i64 1099511627777 b=some (.int .i64 (q:Int)) by simp only[zw];rw[if_neg h2',hq,hwq],hgt]
 have hgt':¬((1099511627777/b:Nat):Int)<(a:Int):=fun h=>hgt (Int.ofNat_lt.1 h)
 have hle:a*b<=1099511627777:=(Nat.le_div_iff_mul_le (by omega)).1 (by omega);have hww:=wr (n:=(a:Int)*b) (by
  have:(0:Int)<=(a:Int)*b:=by rw[<- Int.natCast_mul];omega
  omega) (by
  rw[<- Int.natCast_mul];omega)
 have hm:wQ (.int .i64 ((a:Int)*b)) (.int .i64 1099511627777)=some (.int .i64 (sat (a*b):Nat)):=by
  simp only[wQ,Vd];rw[<- Int.natCast_mul];congr 2;split<;>omega
 generalize hqq:1099511627777/b=q at *;simp[-getElem?_pos,-zw,Vu,quq,qpr,h1,h2,show zw .quo .i64 1099511627777 b=some (.int .i64 (q:Int)) by simp only[zw];rw[if_neg h2',hq,hwq],hgt,hww,hm]
def z8(n:Nat)(l:List Dist):List (Option (List Weight)):=l.foldl (fun o d=>o.set d.var.toNat (some d.weights)) (List.replicate n none)
def qkU(o:Option (List Weight)):List AV:=match o with
 |none=>[.sl 0 [] .nil]
 |some w=>[.sl 4 (w.map qw) .none]
def j8(n l):(z8 n l).length=n:=by
 have:∀(l:List Dist) (o:List (Option (List Weight))),(l.foldl (fun o d=>o.set d.var.toNat (some d.weights)) o).length=o.length:=by
  intro l
  induction l with
  |nil=>intro o;rfl
  |cons a r ih=>intro o;rw[qA1,ih];simp
 unfold z8;rw[this];simp
def KG(n l d):z8 n (l++[d])=(z8 n l).set d.var.toNat (some d.weights):=by simp[z8,qBj]
def qhW{n}:∀{l:List Dist}{w:List Weight},some w∈z8 n l->∃d∈l,d.weights=w:=by
 have gen:∀(l:List Dist) (o:List (Option (List Weight))) (w:List Weight),some w∈l.foldl (fun o d=>o.set d.var.toNat (some d.weights)) o->some w∈o\/∃d∈l,d.weights=w:=by
  intro l
  induction l with
  |nil=>intro o w h;exact .inl h
  | cons a r ih=>
   intro o w h;rw[qA1]at h;rcases ih _ w h with h|⟨d,hd,he⟩
   . rcases qCr h with h|h
     . exact .inl h
     . cases h;exact .inr ⟨a,by simp,rfl⟩
   exact .inr ⟨d,by simp[hd],he⟩
 intro l w h;rcases gen l _ w h with h|h
 . rw[qCc]at h;cases h.2
 exact h
def WFn(p:Problem)(L LL:Nat)(H:List Blk):Prop:=∃c,H[L]?=some (.cells [c])/\(p.vars≠[]->c=.ms LL 0 p.vars.length 1/\H[LL]?=some (.cells ((z8 p.vars.length p.dists).flatMap qkU)))
def qzc(p:Problem)(H:List Blk)(r:AV)(U':St):Prop:=KpL [] H U'.H/\∃L LL,r=.fn 75 [] [.ptr L 0]/\H.length<=L/\H.length<=LL/\WFn p L LL U'.H
def qkT(o):(qkU o).length=1:=by cases o<;>rfl
def qmc(p)(h:VQ p)(hv:qk p=0)(H T):qg prog GG 42 [.agg (qt p)] ⟨H,T⟩ (qzc p H):=by
 refine qEI qe func42 rfl (by kernel_rfl) ?_;have hvd:=qdQ hv;have hvl:=h.vars;have hdf:=h.dists;by_cases hv0:p.vars=[]
 . have hd0:p.dists=[]:=by
    apply qBY.2;intro d hd;obtain⟨i,v,_,hi⟩:=hvd d hd;rw[hv0]at hi;simp at hi
   have fin:∀(u:List Blk) (T':List (Option Nat)) (B0:Blk) (c:AV),qzc p H (.fn 75 [] [.ptr (H.length+1) 0]) ⟨H++B0::.cells [c]::u,T'⟩:=fun u T' B0 c=>⟨qFh,H.length+1,H.length+1,rfl,by omega,by omega,c,lk1,fun hn=>absurd hv0 hn⟩
   simp[hv0,hd0,qI];refine qEO (fun m ev U=>ev 3=.ptr (H.length+1) 0/\ev 12=.int .i64 0/\ev 13=.int .i64 0/\∃B0 c u T',U=⟨H++B0::.cells [c]::u,T'⟩) 0 ⟨by simp,by simp,by simp,_,_,_,_,rfl⟩ ?_;rintro m ev U R hR ⟨e3,e12,e13,B0,c,u,T',rfl⟩;simp[e3,e12,e13];exact fin _ _ _ _
 have hpos:=qAI.2 hv0;have hne:¬(p.vars.length:Int)=0:=by omega
 simp[hv0,show(p.vars.length:Int)<=549755813888 by omega,qI];refine qEZ p.dists (fun d ev U=>ev 3=.ptr (H.length+2) 0/\ev 11=.sl 2 (p.dists.map zl) .none/\ev 12=.int .i64 p.dists.length/\ev 13=.int .i64 d.length/\KpL [] H U.H/\U.H[H.length+2]?=some (.cells [.ms (H.length+1) 0 p.vars.length 1])/\U.H[H.length+1]?=some (.cells ((z8 p.vars.length d).flatMap qkU))) ?_ ?_ ?_
 . refine⟨by simp,by simp,by simp,by simp,qFh,lk2,?_⟩;have:(z8 p.vars.length []).flatMap qkU=List.replicate p.vars.length (.sl 0 [] .nil):=by
    show(List.replicate p.vars.length none).flatMap qkU=_;rw[qBM,qDe];show(List.replicate p.vars.length [AV.sl 0 [] .nil]).flatten=_;simp
   rw[this];exact lk1
 . rintro d x rest ev ⟨H1,T1⟩ R hR hd hx hlt ⟨e3,e11,e12,e13,hkp,b2,b1⟩;have hdw:=wr (n:=(d.length:Int)+1) (by unfold Fits at hdf;omega) (by unfold Fits at hdf;omega);obtain⟨i,v,hi,hvi⟩:=hvd x (qAn hx);have hil:=(qAm.1 hvi).1;have hi1:i+1<=p.vars.length:=hil;have hll:=j8 p.vars.length d;have hfl:=Go.Abs.jq (sz:=1) qkT (z8 p.vars.length d);rw[hll,Nat.mul_one]at hfl;have hset:((z8 p.vars.length d).flatMap qkU).set i (.sl 4 (x.weights.map qw) .none)=(z8 p.vars.length (d++[x])).flatMap qkU:=by
    have:=QA qkT (z8 p.vars.length d) i (some x.weights) (by omega);rw[KG,hi,qAS,<- this];simp[qkU,zx]
   have hl1:=(qAm.1 b1).1;generalize (z8 p.vars.length d).flatMap qkU=F at *;simp[e3,e11,e12,e13,show(d.length:Int)<p.dists.length by omega,hx,qd b2,qd b1,ku b1,hi,show(i:Int)<p.vars.length by omega,hfl,hi1,hset,hdw];refine hR _ _ ⟨by simp[e3],by simp[e11],by simp[e12],by simp,(hkp.setF (by omega)).trans qFh,qd (by rw[qAp (by omega)];exact b2) _,qd (qAt hl1) _⟩
 rintro ev ⟨H1,T1⟩ ⟨e3,e11,e12,e13,hkp,b2,b1⟩;simp[e3,e12,e13];exact⟨hkp,H.length+2,H.length+1,rfl,by omega,by omega,_,b2,fun _=>⟨rfl,b1⟩⟩
def wtO(o:Option (List Weight))(v:Int):Nat:=match o with
 |none=>1
 |some w=>if(zR w v).2≠0 then lim else sat (zR w v).1.toNat
def qtF(o v):wtO o v<=lim:=by
 unfold wtO;split
 . unfold lim;omega
 split
 . exact qAy _
 exact Ke _
def qsi(n):0<=(J2 n).1:=by
 unfold J2;split<;>simp
def Qv(l v):0<=(zR l v).1:=by
 unfold zR;split
 . simp
 split
 . simp
 unfold vJ;split
 . simp
 split<;>exact qsi _
def qeU(o:Option (List Weight)):AV:=match o with
 |none=>.sl 0 [] .nil
 |some w=>.sl 4 (w.map qw) .none
def qsu(o):qkU o=[qeU o]:=by cases o<;>rfl
def qyg(l:List (Option (List Weight))):l.flatMap qkU=l.map qeU:=by
 induction l with
 |nil=>rfl
 |cons a r ih=>rw[qAO,ih,qsu];rfl
def map_drop{α:Type}(f:α->AV){l:List α}{i:Nat}{x:α}(h:l[i]?=some x):(l.map f).drop i=f x::(l.map f).drop (i+1):=by
 obtain⟨h1,h2⟩:=qAm.1 h;rw[qAJ (by simpa using h1),qB1,h2]
def V4(p){L LL H}(hw:WFn p L LL H){i:Nat}{o:Option (List Weight)}(hi:(z8 p.vars.length p.dists)[i]?=some o)(ho:∀w,o=some w->w≠[]/\w.length<=1000)(v T) :
 qg prog GG 75 [.int .i64 (i:Int),.int .i64 v,.ptr L 0] ⟨H,T⟩ (fun r U'=>r=.int .i64 (wtO o v:Nat)/\U'=⟨H,T⟩):=by
 refine qEI qe func75 rfl (by kernel_rfl) ?_;have hil:=(qAm.1 hi).1;rw[j8]at hil;have hne:p.vars≠[]:=fun e=>by rw[e]at hil;simp at hil
 obtain⟨c,hL,hc⟩:=hw;obtain⟨rfl,hLL⟩:=hc hne;rw[qyg]at hLL;have hdr:=map_drop qeU hi;have hlen:((z8 p.vars.length p.dists).map qeU).length=p.vars.length:=by rw[qAY,j8]
 have hil':(i:Int)<p.vars.length:=by omega
 have hi1:i+1<=p.vars.length:=hil;generalize (z8 p.vars.length p.dists).map qeU=F at *
 cases o with
 | none=>
  simp[-getElem?_pos,hL,hLL,hil',hi1,hlen,hdr,qeU,qQ,Jn,TD.isSl,wtO]
 | some w=>
  obtain⟨hwn,hwl⟩:=ho w rfl;obtain⟨a,r,rfl⟩:=qC4 hwn;have h51:=qmb (a::r) hwl v;have hnn:=Qv (a::r) v;have hwt:wtO (some (a::r)) v=if(zR (a::r) v).2≠0 then lim else sat (zR (a::r) v).1.toNat:=rfl
  rw[hwt];generalize zR (a::r) v=wd at *;obtain⟨x,e⟩:=wd;simp only at hnn h51⊢;have hm:wQ (.int .i64 x) (.int .i64 1099511627777)=some (.int .i64 (sat x.toNat:Nat)):=by
   simp only[wQ,Vd];congr 2;split<;>omega
  simp[-getElem?_pos,hL,hLL,hil',hi1,hlen,hdr,qeU,qQ,Jn,TD.isSl];refine qEJ (by simpa using h51) (by simp) ?_;by_cases he:e=0
  . simp[-getElem?_pos,he,hm]
  simp[-getElem?_pos,he,lim]
structure Spc where
 S:Nat
 L:Nat
 LL:Nat
 p:Problem
 R:List Ex
 rtok:Tok
 lv:List Int
 dv:AV
 root:Nat
 small:Bool
def spE(s:Spc):List AV:=qt s.p++[.sl 4 (s.R.map qp) s.rtok,.sl 1 (s.lv.map qh) .none,s.dv,.int .i64 s.root,.bool s.small,.fn 75 [] [.ptr s.L 0]]
structure SpOk(s:Spc)(H:List Blk):Prop where
 c:H[s.S]?=some (.cells (spE s))
 w:WFn s.p s.L s.LL H
 b:s.LL<H.length
def SpOk.keep{s H H' bs}(h:SpOk s H)(hk:KpL bs H H')(h1:s.S∉bs)(h2:s.L∉bs)(h3:s.LL∉bs):SpOk s H':=by
 refine⟨hk.2 _ _ h.c h1,?_,qAF h.b hk.1⟩;obtain⟨c,hL,hc⟩:=h.w;exact⟨c,hk.2 _ _ hL h2,fun hn=>⟨(hc hn).1,hk.2 _ _ (hc hn).2 h3⟩⟩
def qnV{d}(h:DagOk d){f}(hf:f<d.length)(L o):yd d f L o<d.length:=by
 have hn:=qAo hf;unfold yd;rw[hn];simp only;split
 . by_cases h2:2<=f
   . obtain⟨g1,g2,g3,g4,g5,g6⟩:=h.node f _ h2 hn;split<;>omega
   . have ht:=h.two;have:f=0\/f=1:=by omega
     rcases this with rfl|rfl
     . have e:=h.n0;rw[hn]at e;rw[Option.some.inj e];split<;>simp<;>omega
     have e:=h.n1;rw[hn]at e;rw[Option.some.inj e];split<;>simp<;>omega
 exact hf
def vz(d:List Nd)(l w:Nat)(v:Nat)(node:Nat)(k:Nat):Nat:=(List.range k).foldl (fun node k=>yd d node (l+k) (v.testBit (w-1-k))) node
def JD(d l w v node k):vz d l w v node (k+1)=yd d (vz d l w v node k) (l+k) (v.testBit (w-1-k)):=by simp[vz,qBF,qBj]
def YJ{d}(h:DagOk d){node}(hn:node<d.length)(l w v):∀k,vz d l w v node k<d.length
 |0=>hn
 |k+1=>by rw[JD];exact qnV h (YJ h hn l w v k) _ _
def qoQ(n i:Nat)(hn:n<2^63):zw .and .i64 ((n:Int).fdiv (2^i)) 1=some (.int .i64 (if n.testBit i=true then 1 else 0)):=by
 rw[qlM n i hn];cases n.testBit i<;>rfl
def VS{s:Spc}{H}(h:SpOk s H){d tok}(hd:DagOk d)(hdv:s.dv=.sl 3 (d.map qH) tok){i l node val:Nat}{v:Var}(hv:s.p.vars[i]?=some v)(hl:s.lv[i]?=some (l:Int))(hw:0<=v.width/\v.width<=8)(hlw:l<=20)(hn:node<d.length)(hval:val<2^16)(T) :
 qg prog GG 80 [.ptr s.S 0,.int .i64 node,.int .i64 i,.int .i64 val] ⟨H,T⟩ (fun r U'=>r=.int .i64 (vz d l v.width.toNat val node v.width.toNat:Nat)/\KpL [] H U'.H):=by
 refine qEI qe func80 rfl (by kernel_rfl) ?_;have hS:=h.c;simp only[spE,qt,qAL,qAK,hdv]at hS;have hwn:v.width=(v.width.toNat:Int):=by omega
 generalize hwN:v.width.toNat=w at *;simp[hS,hv,hwn];refine kf w (fun k ev U=>ev 0=.ptr s.S 0/\ev 1=.int .i64 (vz d l w val node k:Nat)/\ev 2=.int .i64 (i:Int)/\ev 3=.int .i64 (val:Int)/\ev 9=.int .i64 (w:Int)/\ev 21=.int .i64 (w:Int)/\ev 22=.int .i64 (k:Int)/\KpL [] H U.H) ?_ ?_ ?_
 . exact⟨by simp,by simp[vz],by simp,by simp,by simp,by simp,by simp,qFf⟩
 . rintro k ev ⟨H1,T1⟩ R hR hkw ⟨e0,e1,e2,e3,e9,e21,e22,hkp⟩;have hS1:=hkp.2 _ _ hS (by simp);have hnl:=YJ hd hn l w val k;have hsucc:=JD d l w val node k;generalize vz d l w val node k=nd at *;obtain⟨n,hnn⟩:∃n,d[nd]?=some n:=⟨_,qAo hnl⟩;have hk':(k:Int)<w:=(by omega);have hwk:=wr (n:=(k:Int)+1) (by omega) (by omega);have hlk:=wr (n:=(l:Int)+k) (by omega) (by omega);have hw1:=wr (n:=(w:Int)-1) (by omega) (by omega);have hw2:=wr (n:=(w:Int)-1-k) (by omega) (by omega);have hsub:(w:Int)-1-k=((w-1-k:Nat):Int):=(by omega);rw[hsub]at hw2;have hmin:min (w-1-k) 64=w-1-k:=(by omega);have hand:=qoQ val (w-1-k) (by omega);have hneg:¬((w-1-k:Nat):Int)<0:=(by omega);unfold yd at hsucc;rw[hnn]at hsucc;simp only at hsucc;generalize hm:w-1-k=m at *;by_cases hlv:n.1=l+k
   . have hlv':(n.1:Int)=(l:Int)+k:=(by omega);rw[if_pos hlv]at hsucc
     cases hbit:val.testBit m with
     | true=>
      rw[hbit,if_pos rfl]at hsucc;rw[hbit]at hand;simp[-zw,Vt,Kx,JY,qjN,Vu,e0,e1,e2,e3,e9,e21,e22,hk',qd hS1,hS1,hnn,hl,hlk,hlv',hw1,hsub,hw2,hmin,IntKind.bits,hand,hneg,hwk];exact hR _ _ ⟨by simp[e0],by simp[hsucc],by simp[e2],by simp[e3],by simp[e9],by simp[e21],by simp,hkp.trans qFh⟩
     | false=>
      rw[hbit,if_neg (by simp)]at hsucc;rw[hbit]at hand;simp[-zw,Vt,Kx,JY,qjN,Vu,e0,e1,e2,e3,e9,e21,e22,hk',qd hS1,hS1,hnn,hl,hlk,hlv',hw1,hsub,hw2,hmin,IntKind.bits,hand,hneg,hwk];exact hR _ _ ⟨by simp[e0],by simp[hsucc],by simp[e2],by simp[e3],by simp[e9],by simp[e21],by simp,hkp.trans qFh⟩
   have hlv':¬(n.1:Int)=(l:Int)+k:=(by omega);rw[if_neg hlv]at hsucc;simp[-zw,Vt,Kx,JY,qjN,e0,e1,e2,e3,e9,e21,e22,hk',qd hS1,hS1,hnn,hl,hlk,hlv',hwk];exact hR _ _ ⟨by simp[e0],by simp[e1,hsucc],by simp[e2],by simp[e3],by simp[e9],by simp[e21],by simp,hkp.trans qFh⟩
 rintro ev ⟨H1,T1⟩ ⟨e0,e1,e2,e3,e9,e21,e22,hkp⟩;simp[e1,e21,e22];exact hkp
def qiy(m:AV)(fx:Nat->Option Nat)(H:List Blk):Prop :=
 (m=.nilm/\∀i,fx i=none)\/∃F es n,m=.map F/\H[F]?=some (.map es n)/\∀i:Nat,match fx i with
   |none=>jP (.int .i64 (i:Int)) es 0=some none
   |some x=>∃j,jP (.int .i64 (i:Int)) es 0=some (some (j,.int .i64 (x:Int)))
def qiy.keep{m fx H H' bs}(h:qiy m fx H)(hk:KpL bs H H')(hb:∀F,m=.map F->F∉bs):qiy m fx H':=by
 rcases h with h|⟨F,es,n,rfl,hF,h⟩
 . exact .inl h
 exact .inr ⟨F,es,n,rfl,hk.2 _ _ hF (hb F rfl),h⟩
def qiy.look{m fx H}(h:qiy m fx H)(i:Nat)(T):zA (Dof prog) ⟨H,T⟩ 96 m (.int .i64 (i:Int)) true=some (match fx i with|none=>.tup [.int .i64 0,.bool false]|some x=>.tup [.int .i64 (x:Int),.bool true]):=by
 rcases h with⟨rfl,h⟩|⟨F,es,n,rfl,hF,h⟩
 . rw[h i];simp[zA,zG,jP,qbs]
 have:=h i
 cases hx:fx i with
 |none=>rw[hx]at this;simp[zA,zG,hF,this,qbs]
 | some x=>
  rw[hx]at this;obtain⟨j,hj⟩:=this;simp[zA,zG,hF,hj]
def zL(n:Nat):List AV:=[.int .i64 (n:Int)]
def qlU(r:AV)(vals:List Nat)(H:List Blk)(n:Nat):Prop:=r=.sl 1 (vals.map zL) .tight\/∃N,r=.ms N 0 vals.length 1/\n<=N/\H[N]?=some (.cells (qy vals))
def wH(w:Nat)(o:Option Nat):List Nat:=match o with
 |none=>List.range (2^w)
 |some x=>[x]
def qzv(vals:List Nat)(H:List Blk)(r:AV)(U':St):Prop:=KpL [] H U'.H/\qlU r vals U'.H H.length
def qbF{s:Spc}{H}(h:SpOk s H){m fx}(hf:qiy m fx H){i:Nat}{v:Var}(hv:s.p.vars[i]?=some v)(hw:0<=v.width/\v.width<=8)(T) :
 qg prog GG 137 [.ptr s.S 0,.int .i64 i,m] ⟨H,T⟩ (qzv (wH v.width.toNat (fx i)) H):=by
 refine qEI qe func137 rfl (by kernel_rfl) ?_;have hS:=h.c;have hlk:=hf.look i T;simp only[spE,qt,qAL,qAK]at hS
 cases hfx:fx i with
 | some x=>
  rw[hfx]at hlk;simp[hlk,qf,qm];exact⟨qFf,.inl rfl⟩
 | none=>
  rw[hfx]at hlk;have hs1:=wB hw.1 (by omega);have hp8:2^v.width.toNat<=2^8:=qAV (by omega) (by omega);have hp0:0<2^v.width.toNat:=qDa _;have hvs:wH v.width.toNat none=List.range (2^v.width.toNat):=rfl;rw[hvs];obtain⟨N,hN⟩:∃N,N=2^v.width.toNat:=⟨_,rfl⟩;rw[<- hN]at hs1 hp8 hp0⊢;simp[hlk,hS,hv,show ¬v.width<0 by omega,IntKind.bits,hs1,qI,show N≠0 by omega,show(N:Int)<=549755813888 by omega];rw[show List.replicate N (AV.int .i64 0)=qy (List.replicate N 0) by simp[qy]];refine kf N (fun k ev U=>ev 9=.ms H.length 0 N 1/\ev 32=.int .i64 (N:Int)/\ev 33=.int .i64 (k:Int)/\KpL [] H U.H/\∃W,W.length=N/\U.H[H.length]?=some (.cells (qy W))/\∀j,j<k->W[j]?=some j) ?_ ?_ ?_
  . exact⟨by simp,by simp,by simp,qFh,List.replicate N 0,by simp,lk0,fun j hj=>absurd hj (by omega)⟩
  . rintro k ev ⟨H1,T1⟩ R hR hk ⟨e9,e32,e33,hkp,W,hWl,bW,hWj⟩;have hk1:k+1<=N:=hk;have hwk:=wr (n:=(k:Int)+1) (by omega) (by omega);have hl1:=(qAm.1 bW).1;simp[e9,e32,e33,show(k:Int)<N by omega,hk1,bW,hWl,kz,hwk];refine hR _ _ ⟨by simp[e9],by simp[e32],by simp,hkp.setF (qAy _),W.set k k,by simp[hWl],qAt hl1,fun j hj=>?_⟩;by_cases hjk:j=k
    . subst hjk;rw[qAt (by omega)]
    rw[qAp (Ne.symm hjk)];exact hWj j (by omega)
  rintro ev ⟨H1,T1⟩ ⟨e9,e32,e33,hkp,W,hWl,bW,hWj⟩;have hWr:W=List.range N:=by
   apply qBn;intro j;by_cases hj:j<N
   . rw[hWj j hj,qC5 hj]
   rw[qAU (by omega),qAU (by simp;omega)]
  rw[hWr]at bW;simp[e9,e32,e33];exact⟨hkp,.inr ⟨H.length,by simp,qAy _,bW⟩⟩
def jz(p:Problem)(i:Nat):Nat:=(zM p.vars i).toNat
def Jp(lv:List Int)(i:Nat):Nat:=(lv.getD i 0).toNat
def wtP(p:Problem)(i v:Nat):Nat:=wtO ((z8 p.vars.length p.dists).getD i none) (v:Int)
def qfc(p i v):wtP p i v<=lim:=qtF _ _
def qbm(p:Problem)(lv:List Int)(d:List Nd)(fx:Nat->Option Nat):List Nat->Nat->Nat
 |[],node=>if node=0 then 0 else 1
 |i::r,node=>if node=0 then 0 else(wH (jz p i) (fx i)).foldl (fun s v=>sat (s+sat (wtP p i v*qbm p lv d fx r (vz d (Jp lv i) (jz p i) v node (jz p i))))) 0
def yS{α:Type}(f:α->Nat):∀(l:List α) (s:Nat),s<=lim->l.foldl (fun s v=>sat (s+f v)) s<=lim
 |[],s,h=>h
 |a::r,s,h=>yS f r _ (Ke _)
def qqL(p lv d fx g node):qbm p lv d fx g node<=lim:=by
 cases g with
 |nil=>unfold qbm lim;split<;>omega
 | cons i r=>
  unfold qbm;split
  . exact qCf _
  exact yS _ _ _ (qCf _)
abbrev Pt:=(Nat×Nat)×Nat×Nat
def ptE(q:Pt):AV×AV×Nat:=(.agg [.int .i64 (q.1.1:Int),.int .i64 (q.1.2:Int)],.int .i64 (q.2.1:Int),q.2.2)
def qed{x}:∀(E:List Pt) (k),(jP (.agg [.int .i64 (x.1:Int),.int .i64 (x.2:Int)]) (E.map ptE) k=some none/\∀q∈E,q.1≠x)\/∃j q,E[j]?=some q/\q.1=x/\jP (.agg [.int .i64 (x.1:Int),.int .i64 (x.2:Int)]) (E.map ptE) k=some (some (k+j,.int .i64 (q.2.1:Int)))
 |[],k=>.inl ⟨rfl,by simp⟩
 | e::E,k=>by
  have hk:QT (.agg [.int .i64 (x.1:Int),.int .i64 (x.2:Int)]) (.agg [.int .i64 (e.1.1:Int),.int .i64 (e.1.2:Int)])=some (decide (x=e.1)):=by
   obtain⟨a,b⟩:=x;obtain⟨⟨c,d⟩,r⟩:=e;simp only[QT,jg,kQ,if_true];congr 1;rw[qBd];simp;omega
  by_cases h:x=e.1
  . right;have hd:decide (x=e.1)=true:=(by simpa using h);rw[hd]at hk;exact⟨0,e,rfl,h.symm,by simp[jP,ptE,hk]⟩
  have hd:decide (x=e.1)=false:=by simpa using h
  rw[hd]at hk;rcases qed (x:=x) E (k+1) with⟨h1,h2⟩|⟨j,q,h1,h2,h3⟩
  . left;refine⟨by simp only[qAz,ptE,jP,hk];exact h1,fun q hq=>?_⟩;rcases qAM.1 hq with rfl|hq
    . exact fun e=>h e.symm
    exact h2 q hq
  right;refine⟨j+1,q,by simpa using h1,h2,?_⟩;simp only[qAz,ptE,jP,hk];have:k+(j+1)=k+1+j:=by omega
  rw[this];exact h3
def quV(a b):zG (Dof prog) 135 (.agg [.int .i64 a,.int .i64 b])=true:=by
 simp[zG,K8,km,qQ,z7,qBF]
def qoY(p:Problem)(lv:List Int)(d:List Nd)(fx:Nat->Option Nat)(g:List Nat)(K:Nat)(H:List Blk):Prop:=∃(E:List Pt) (n:Nat),H[K]?=some (.map (E.map ptE) n)/\∀q∈E,q.2.1=qbm p lv d fx (g.drop q.1.1) q.1.2
def qlU.len{r vals H n}(h:qlU r vals H n)(U):YA (Dof prog) U 28 r=some (.int .i64 (vals.length:Nat)):=by
 rcases h with rfl|⟨N,rfl,_⟩<;>simp
def qlU.at{r}{vals:List Nat}{H}{n:Nat}(h:qlU r vals H n){j x:Nat}(hj:vals[j]?=some x):∃a,zE (Dof prog) 28 r (.int .i64 (j:Int))=some a/\∀T,kx (Dof prog) ⟨H,T⟩ 3 a=some (.int .i64 (x:Int)):=by
 have hl:=(qAm.1 hj).1;rcases h with rfl|⟨N,rfl,_,hN⟩
 . exact⟨.rptr [.int .i64 (x:Int)],by simp[hj,zL],fun T=>by simp⟩
 have hl':(j:Int)<vals.length:=by omega
 have hl1:j+1<=vals.length:=hl;exact⟨.ptr N j,by simp[hl'],fun T=>by simp[hN,hl1,zZ hj]⟩
def qlU.keep{r vals H H' n K}(h:qlU r vals H n)(hk:KpL [K] H H')(hK:K<n):qlU r vals H' n:=by
 rcases h with h|⟨N,h1,h2,h3⟩
 . exact .inl h
 exact .inr ⟨N,h1,h2,hk.2 _ _ h3 (by simp;omega)⟩
def qtA(s:Spc)(g:List Nat):Prop:=∀i∈g,∃(v:Var) (l:Nat),s.p.vars[i]?=some v/\0<=v.width/\v.width<=8/\s.lv[i]?=some (l:Int)/\l<=20/\∀w,(z8 s.p.vars.length s.p.dists)[i]?=some (some w)->w≠[]/\w.length<=1000
def qw3(s:Spc)(d:List Nd)(fx:Nat->Option Nat)(g:List Nat)(K at_ node:Nat)(H:List Blk)(r:AV)(U':St):Prop :=
 r=.int .i64 (qbm s.p s.lv d fx (g.drop at_) node:Nat)/\KpL [K] H U'.H/\qoY s.p s.lv d fx g K U'.H
def qfL:List (Nat×Sch×List Nat):=[(13,.step 0 [15,14] (.step 1 [15,14] (.step 2 [15,14] (.step 3 [15,14] (.step 4 [15,14,13,6,5] (.step 7 [15,14,13,12] (.step 8 [15,14,13,12,9] (.step 9 [15,14,13,12] (.step 10 [15,14,13,12] (.step 11 [15,14,13,12] (.fork (.cons 5 (.step 6 [15,14,13] (.step 12 [15,14,13] (.step 13 [15,14] (.step 14 [15] (.step 15 [] (.done)))))) (.cons 12 (.step 5 [15,14,13,6] (.step 6 [15,14,13] (.step 13 [15,14] (.step 14 [15] (.step 15 [] (.done)))))) (.nil))))))))))))),[12,14])]
def qi2{s d tok}(hd:DagOk d)(hdv:s.dv=.sl 3 (d.map qH) tok){fx}(hfx:∀i x,fx i=some x->x<65536){m g}(hg:qtA s g)(hgl:g.length<=1000){K}(hSK:s.S≠K)(hLK:s.L≠K)(hLLK:s.LL≠K)(hmK:∀F,m=.map F->F≠K) :
 ∀ (k at_),at_+k=g.length->∀(node) (H) (T),node<d.length->SpOk s H->qiy m fx H->qoY s.p s.lv d fx g K H ->
  qg prog GG 81 [.ptr s.S 0,.sl 1 (g.map zL) .none,m,.map K,.agg [.int .i64 at_,.int .i64 node]] ⟨H,T⟩ (qw3 s d fx g K at_ node H):=by
 intro k
 induction k with
 | zero=>
  intro at_ hat node H T hn hs hf hmem;refine qEH ⟨false,qfL,[],[]⟩ qe func81 rfl (by kernel_rfl) ?_;have hat':(at_:Int)=g.length:=by omega
  obtain⟨E,n,hE,hEv⟩:=hmem;have fin:∀u,qw3 s d fx g K at_ node H (.int .i64 (if node=0 then 0 else 1:Nat)) ⟨H++u,T⟩:=fun u=>⟨by rw[show g.drop at_=[] from qA3 (by omega)];rfl,qFh,E,n,qd hE _,hEv⟩
  by_cases hn0:node=0
  . subst hn0;simp;exact fin _
  have hn0':¬(node:Int)=0:=by omega
  rw[if_neg hn0]at fin;simp[hn0,hat'];exact fin _
 | succ k ih=>
  intro at_ hat node H T hn hs hf hmem;refine qEH ⟨false,qfL,[],[]⟩ qe func81 rfl (by kernel_rfl) ?_;obtain⟨i,hi⟩:∃i,g[at_]?=some i:=⟨_,qAo (by omega)⟩;obtain⟨v,l,hv,hw0,hw8,hl,hl20,hwn⟩:=hg i (qAn hi);have hdr:g.drop at_=i::g.drop (at_+1):=by
   obtain⟨h1,h2⟩:=qAm.1 hi;rw[qAJ h1,h2]
  have hat':¬(at_:Int)=g.length:=by omega
  obtain⟨E,n,hE,hEv⟩:=hmem;have hKl:=(qAm.1 hE).1;by_cases hn0:node=0
  . subst hn0;have fin:∀u,qw3 s d fx g K at_ 0 H (.int .i64 0) ⟨H++u,T⟩:=fun u=>⟨by rw[hdr];rfl,qFh,E,n,qd hE _,hEv⟩
    simp;exact fin _
  have hfit:=quV at_ node;rcases qed (x:=(at_,node)) E 0 with⟨hfind,hno⟩|⟨j,q,hj1,hj2,hfind⟩
  case inr=>
   have hqv:=hEv q (qAn hj1);rw[hj2]at hqv;have fin:∀u,qw3 s d fx g K at_ node H (.int .i64 (q.2.1:Nat)) ⟨H++u,T⟩:=fun u=>⟨by rw[hqv],qFh,E,n,qd hE _,hEv⟩
   have hlk:∀(u:List Blk) (T:List (Option Nat)),zA (Dof prog) ⟨H++u,T⟩ 133 (.map K) (.agg [.int .i64 at_,.int .i64 node]) true=some (.tup [.int .i64 (q.2.1:Int),.bool true]):=fun u T=>by
    simp only[zA,qw8,hfit,if_true];simp[qd hE,hfind]
   simp[hn0,hat',hlk];exact fin _
  have hlk:∀(u:List Blk) (T:List (Option Nat)),zA (Dof prog) ⟨H++u,T⟩ 133 (.map K) (.agg [.int .i64 at_,.int .i64 node]) true=some (.tup [.int .i64 0,.bool false]):=fun u T=>by
   simp only[zA,qw8,hfit,if_true];simp[qd hE,hfind,qbs]
  have hs0:=hs.keep (H':=H++[.cells [.int .i64 at_,.int .i64 node]]) (bs:=[]) qFh (by simp) (by simp) (by simp);have hf0:=hf.keep (H':=H++[.cells [.int .i64 at_,.int .i64 node]]) (bs:=[]) qFh (by simp);have hval:=qbF hs0 hf0 hv ⟨hw0,hw8⟩ T;obtain⟨vals,hvals⟩:∃vals,vals=wH v.width.toNat (fx i):=⟨_,rfl⟩;rw[<- hvals]at hval;have hvb:∀x∈vals,x<65536:=fun x hx=>by
   rw[hvals]at hx
   cases hfi:fx i with
   | none=>
    rw[hfi]at hx;have:=qBq.1 hx;have:2^v.width.toNat<=2^8:=qAV (by omega) (by omega);omega
   | some y=>
    rw[hfi]at hx;have:x=y:=by simpa[wH] using hx
    rw[this];exact hfx i y hfi
  have hvl:vals.length<=256:=by
   rw[hvals]
   cases hfi:fx i with
   |none=>simp only[wH,qDW];exact qBf (qAV (by omega) (show v.width.toNat<=8 by omega)) (by decide)
   |some y=>simp[wH]
  have hsum:qbm s.p s.lv d fx (g.drop at_) node=vals.foldl (fun a x=>sat (a+sat (wtP s.p i x*qbm s.p s.lv d fx (g.drop (at_+1)) (vz d l v.width.toNat x node v.width.toNat)))) 0:=by
   rw[hdr,hvals];simp only[qbm,if_neg hn0,show jz s.p i=v.width.toNat by simp[jz,zM,hv],show Jp s.lv i=l by simp[Jp,qAx,hl]]
  obtain⟨f,hff⟩:∃f:Nat->Nat,∀x,f x=sat (wtP s.p i x*qbm s.p s.lv d fx (g.drop (at_+1)) (vz d l v.width.toNat x node v.width.toNat)):=⟨_,fun _=>rfl⟩;have hfle:∀x,f x<=lim:=fun x=>by rw[hff];exact Ke _
  simp only[<- hff]at hsum;simp[hn0,hat',hlk,hi,zL];refine qEM hval ?_;rintro r ⟨H1,T1⟩ ⟨hk1,hrow⟩;have hlen:=hrow.len;have hrow:qlU r vals H1 H.length:=hrow.imp id fun⟨N,h1,h2,h3⟩=>⟨N,h1,by simp at h2;omega,h3⟩
  simp[-YA,hlen];refine qEZ vals (fun dn ev U=>ev 0=.ptr s.S 0/\ev 1=.sl 1 (g.map zL) .none/\ev 2=m/\ev 3=.map K/\ev 9=.ptr H.length 0/\ev 13=.int .i64 (dn.foldl (fun a x=>sat (a+f x)) 0:Nat)/\ev 14=.int .i64 (i:Int)/\ev 44=r/\ev 45=.int .i64 vals.length/\ev 46=.int .i64 dn.length/\KpL [K] H U.H/\qoY s.p s.lv d fx g K U.H/\qlU r vals U.H H.length/\U.H[H.length]?=some (.cells [.int .i64 at_,.int .i64 node])) ?_ ?_ ?_
  . exact⟨by simp,by simp,by simp,by simp,by simp,by simp,by simp,by simp,by simp,by simp,((qFh.trans hk1).sub (by simp)),(⟨E,n,hk1.2 _ _ (qd hE _) (by simp),hEv⟩),hrow,(hk1.2 _ _ lk0 (by simp))⟩
  . rintro dn x rest ev ⟨H2,T2⟩ R hR hdl hx hlt ⟨e0,e1,e2,e3,e9,e13,e14,e44,e45,e46,hkp,hme,hro,bX2⟩;obtain⟨a,ha1,ha2⟩:=hro.at hx;have hdw:=wr (n:=(dn.length:Int)+1) (by omega) (by omega);have hxb:=hvb x (qAn hx);have hs2:=hs.keep hkp (by simpa using hSK) (by simpa using hLK) (by simpa using hLLK);have hf2:=hf.keep hkp (fun F hF=>by simpa using hmK F hF);have hatw:=wr (n:=(at_:Int)+1) (by omega) (by omega);have hdes:=VS hs2 hd hdv hv hl ⟨hw0,hw8⟩ hl20 hn (val:=x) (by omega) T2;have hnl:=YJ hd hn l v.width.toNat x v.width.toNat;have hffx:=hff x;have hfx1:=hfle x;generalize hnd:vz d l v.width.toNat x node v.width.toNat=nd at *;simp[-zE,-kx,e44,e45,e46,show(dn.length:Int)<vals.length by omega,ha1,ha2];rw[qR rfl];simp[ze,e0,e1,e2,e3,e9,e14,bX2,hatw];refine⟨qEM hdes ?_,qEM hdes ?_⟩
    all_goals
     rintro w ⟨H3,T3⟩ ⟨rfl,hk3⟩;have hk3':KpL [K] H2 H3:=hk3.sub (by simp);have bX3:=hk3.2 _ _ bX2 (by simp);have hs3:=hs2.keep hk3' (by simpa using hSK) (by simpa using hLK) (by simpa using hLLK);have hf3:=hf2.keep hk3' (fun F hF=>by simpa using hmK F hF);have hme3:qoY s.p s.lv d fx g K H3:=by
      obtain⟨E3,n3,h1,h2⟩:=hme;exact⟨E3,n3,hk3.2 _ _ h1 (by simp),h2⟩
     have hih:=ih (at_+1) (by omega) nd H3 T3 hnl hs3 hf3 hme3;simp only[qDA,qEb]at hih;simp[ze,bX3,hatw,zs,zW,qM];refine qEM hih ?_;rintro w ⟨H4,T4⟩ ⟨rfl,hk4,hme4⟩;have hs4:=hs3.keep hk4 (by simpa using hSK) (by simpa using hLK) (by simpa using hLLK);have bX4:=hk4.2 _ _ bX3 (by simp;omega);have hS4:=hs4.c;simp only[spE,qt,qAL,qAK]at hS4;obtain⟨o,ho⟩:∃o,(z8 s.p.vars.length s.p.dists)[i]?=some o:=⟨_,qAo (by rw[j8];exact(qAm.1 hv).1)⟩;have hweigh:=V4 s.p hs4.w ho (fun w hw=>hwn w (by rw[ho,hw])) (x:Int) T4;rw[<- show wtP s.p i x=wtO o (x:Int) by simp[wtP,qAx,ho]]at hweigh;have hwle:=qfc s.p i x;have hsle:=qqL s.p s.lv d fx (g.drop (at_+1)) nd;generalize qbm s.p s.lv d fx (g.drop (at_+1)) nd=sd at *;generalize wtP s.p i x=wx at *;have hacc:dn.foldl (fun a x=>sat (a+f x)) 0<=lim:=yS f dn 0 (qCf _);have hsnoc:(dn++[x]).foldl (fun a x=>sat (a+f x)) 0=sat (dn.foldl (fun a x=>sat (a+f x)) 0+f x):=(by rw[qBj];rfl);generalize dn.foldl (fun a x=>sat (a+f x)) 0=acc at *;have ht:=qae wx sd hwle hsle;rw[<- hffx]at ht;have hp:=qjF acc (f x) hacc hfx1;simp[ze,e0,e13,e14,hS4];refine qEM hweigh ?_;rintro w U ⟨rfl,rfl⟩;simp;refine qEJ ht (by simp) ?_;simp;refine qEJ hp (by simp) ?_;simp[e46,hdw];exact hR _ _ ⟨by simp[e0],by simp[e1],by simp[e2],by simp[e3],by simp[e9],by simp[hsnoc],by simp[e14],by simp[e44],by simp[e45],by simp,(hkp.trans hk3').trans hk4,hme4,(hro.keep hk3' hKl).keep hk4 hKl,bX4⟩
  rintro ev ⟨H2,T2⟩ ⟨e0,e1,e2,e3,e9,e13,e14,e44,e45,e46,hkp,hme,hro,bX2⟩;rw[<- hsum]at e13;obtain⟨E2,n2,hE2,hEv2⟩:=hme;have hK2:=(qAm.1 hE2).1;generalize hsd:qbm s.p s.lv d fx (g.drop at_) node=sd at *;obtain⟨E3,n3,hup,hEv3⟩:∃(E3:List Pt) (n3:Nat),zg (Dof prog) ⟨H2,T2⟩ 133 (.map K) (.agg [.int .i64 at_,.int .i64 node]) (.int .i64 (sd:Nat))=some ⟨H2.set K (.map (E3.map ptE) n3),T2⟩/\∀q∈E3,q.2.1=qbm s.p s.lv d fx (g.drop q.1.1) q.1.2:=by
   rcases qed (x:=(at_,node)) E2 0 with⟨hfind,_⟩|⟨j,q,hj1,hj2,hfind⟩
   . refine⟨E2++[((at_,node),sd,n2)],n2+1,?_,fun q hq=>?_⟩
     . simp only[zg,qw8,hfit,if_true];simp[hE2,hfind,ptE]
     . rcases qAC.1 hq with hq|hq
       . exact hEv2 q hq
       . rw[qA2]at hq;rw[hq];exact hsd.symm
   refine⟨E2.modify j fun q=>((at_,node),sd,q.2.2),n2,?_,fun q hq=>?_⟩
   . simp only[zg,qw8,hfit,if_true];simp[hE2,hfind];congr 2;apply qBn;intro k;simp only[qCg,qAR];by_cases hkj:j=k
     . subst hkj;cases E2[j]?<;>simp[ptE]
     cases E2[k]?<;>simp[hkj]
   obtain⟨k,hk⟩:=qA5 hq;rw[qCg]at hk;by_cases hkj:j=k
   . subst hkj;rw[hj1]at hk;simp at hk;rw[<- hk];exact hsd.symm
   cases he:E2[k]? with
   |none=>rw[he]at hk;simp at hk
   | some y=>
    rw[he]at hk;simp[hkj]at hk;rw[<- hk];exact hEv2 y (qAn he)
  simp[e3,e9,e13,e45,e46,bX2,hup];exact⟨by rw[hsd],hkp.trans (qFi (by simp)),E3,n3,qAt hK2,hEv3⟩
def eqE(s:Str)(n:Int):Ex:=.mk 15 0 [] [wG s,jD n]
def qef(s n):pre (eqE s n)=[eqE s n,wG s,jD n]:=by
 rw[jB];show eqE s n::wm [wG s,jD n]=_;rw[yy,qfG,yy,ZK];rfl
def qpU{s}(hs:k0 s=true){n}(h0:0<=n)(h1:n<=65535):EOk s 2 3 (eqE s n):=by
 refine⟨fun x hx=>?_,?_,by rw[qef];simp⟩
 . rw[qef]at hx;simp only[qAM,qB0,or_false]at hx;rcases hx with rfl|rfl|rfl
   . exact⟨by simp[qs,eqE,ql,zB,Ex.op,Ex.n,Ex.name,Ex.args],by simp[eqE,Ex.op],by simp[eqE,Ex.op],by simp[eqE,Ex.op]⟩
   . exact⟨qiN hs,by simp[wG,Ex.op],by simp[wG,Ex.op],fun _=>rfl⟩
   exact⟨qaA h0 h1,by simp[jD,Ex.op],by simp[jD,Ex.op],by simp[jD,Ex.op]⟩
 rw[wv];simp[eqE,wG,jD,wv]
def qgz{p:Problem}(h:VQ p)(hv:qk p=0){i:Nat}{v:Var}(hi:p.vars[i]?=some v){n:Int}(h0:0<=n)(h1:n<=65535):zy p.vars (eqE v.name n)=0/\Jf (eqE v.name n):=by
 have hm:=qAn hi;have hve:=zd (z0 hv v hm);have ho:=qpU hve.1 h0 h1;exact⟨ho.valid (by omega) (by omega) (by unfold Qf;rw[qAW];exact⟨v,hm,by simp⟩),ho.tame (h.names v hm) (by omega) (by omega)⟩
def qc5{s:Spc}{H}(h:SpOk s H){i:Nat}{v:Var}(hv:s.p.vars[i]?=some v)(n:Int)(T:List (Option Nat)) :
 qg prog GG 83 [.ptr s.S 0,.int .i64 i,.int .i64 n] ⟨H,T⟩ (fun r U'=>r=.agg (qp (eqE v.name n))/\KpL [] H U'.H):=by
 refine qg.up (qEI qe func83 rfl (by kernel_rfl) ?_);have hS:=h.c;have hil:=(qAm.1 hv).1;simp only[spE,qt,qAL,qAK]at hS;simp[-getElem?_pos,qd hS,hv,zs,zW,qM,qf,qm];refine⟨_,?_,rfl,qFh⟩;simp[eqE,qc,wG,jD,Leq,zn,yh]
def qle(R tok)(h:R≠[]\/tok.known=true):Pure prog GG 82 [.sl 4 (R.map qp) tok] (.sl 4 (R.map qp) .tight):=by
 refine qEF o0 true qe func82 rfl (by kernel_rfl) ?_;have hs:=qkj (en:=qp) (sz:=4) (R:=R) (tok:=tok) (n:=(R.length:Int)) rfl h;simp[-getElem?_pos,hs];rw[qA (by simp)];exact⟨by simp,qEQ _⟩
def qbp(vs:List Var):List (Str×AV×Nat):=vs.zipIdx.map fun q=>(q.1.name,.bool true,q.2)
def qjX{vs:List Var}{i}{v:Var}(hv:vs[i]?=some v):qbp (vs.take (i+1))=qbp (vs.take i)++[(v.name,.bool true,i)]:=by
 have hl:=(qAm.1 hv).1;unfold qbp;rw[qAT,hv];simp[qDf,qBL (qEv hl)]
def qjY{vs:List Var}{j:Nat}{q:Str×AV×Nat}(h:(qbp vs)[j]?=some q):∃v,vs[j]?=some v/\q=(v.name,.bool true,j):=by
 unfold qbp at h;rw[qAR,qCH]at h
 cases hv:vs[j]? with
 |none=>rw[hv]at h;simp at h
 |some v=>rw[hv]at h;simp at h;exact⟨v,rfl,h.symm⟩
def qrH{vs:List Var}(hn:(vs.map (·.name)).Nodup){i}{v:Var}(hv:vs[i]?=some v)(k):jP (.str v.name) ((qbp (vs.take i)).map JT) k=some none:=by
 have hl:=(qAm.1 hv).1;rcases Zy (s:=v.name) (qbp (vs.take i)) k with⟨h1,_⟩|⟨j,q,h1,h2,_⟩
 . exact h1
 exfalso;obtain⟨w,hw,rfl⟩:=qjY h1;rw[qBo]at hw;split at hw
 . rename_i hj;obtain⟨hj1,hj2⟩:=qAm.1 hw;obtain⟨_,hi2⟩:=qAm.1 hv;have hp:=qCb.1 hn;have h2:w.name=v.name:=h2;exact hp j i (by simpa using hj1) (by simpa using hl) hj (by rw[qB1,qB1,hj2,hi2,h2])
 cases hw
def qrG{vs v}(hv:v∈vs)(k):∃j,jP (.str v.name) ((qbp vs).map JT) k=some (some (j,.bool true)):=by
 rcases Zy (s:=v.name) (qbp vs) k with⟨_,h2⟩|⟨j,q,h1,h2,h3⟩
 . exfalso;obtain⟨i,hi⟩:=qA5 hv;have hm:(v.name,AV.bool true,i)∈qbp vs:=qAN.2 ⟨(v,i),qAn (i:=i) (by rw[qCH,hi];simp),rfl⟩;exact h2 _ hm rfl
 obtain⟨w,_,rfl⟩:=qjY h1;exact⟨k+j,h3⟩
def KO{vs e}(hk:zy vs e=0)(ht:Jf e):zi e=0/\zO [3,24] e=[]/\(∀s∈zO [2] e,∃v∈vs,v.name=s)/\(zO [2] e).length<=100000:=by
 have he:zi e=0/\Yc e=false/\Zj vs e=false:=by
  unfold zy at hk;split at hk
  . rename_i h;exact absurd hk h
  rename_i h;split at hk
  . cases hk
  split at hk
  . cases hk
  rename_i h2 h3;exact⟨qBt.1 h,by simpa using h2,by simpa using h3⟩
 refine⟨he.1,?_,fun s hs=>?_,KE ht.2.2⟩
 . have:=QN (e:=e);rw[he.2.1]at this
   cases hl:zO [3,24] e with
   |nil=>rfl
   |cons a r=>rw[hl]at this;simp at this
 have:=QF (l:=vs) (e:=e);rw[he.2.2,qB4]at this;have h1:=this s hs;simp only[qBO,Bool.not_eq_false,Qf,qAW]at h1;obtain⟨v,hv,hvn⟩:=h1;exact⟨v,hv,by simpa using hvn⟩
def qoz(p)(h:VQ p)(hv:qk p=0)(l:List Ex)(hf:l.length<=1000000)(hx:∀e∈l,zy p.vars e=0/\Jf e):Pure prog GG 208 [.agg (qt p),.sl 4 (l.map qp) .none] (.int .i64 0):=by
 refine qEG qe func208 rfl (by kernel_rfl) ?_;have hval:=yW p h;rw[hv]at hval;have hnd:=yN hv;have hvl:=h.vars;simp only[qt]at hval;simp;refine qEJ hval (by simp) ?_;simp;refine qEZ l (fun d ev U=>ev 1=.sl 4 (l.map qp) .none/\ev 2=.ptr 0 0/\ev 17=.sl 4 (l.map qp) .none/\ev 18=.int .i64 l.length/\ev 19=.int .i64 d.length/\∃u T,U=⟨.cells (qt p)::u,T⟩) ?_ ?_ ?_
 . exact⟨by simp,by simp,by simp,by simp,by simp,_,_,rfl⟩
 . rintro d e rest ev U R hR hd hxe hlt ⟨e1,e2,e17,e18,e19,u,T,rfl⟩;have hdw:=wr (n:=(d.length:Int)+1) (by omega) (by omega);have hlt':(d.length:Int)<l.length:=(by omega);obtain⟨hk,ht⟩:=hx e (qAn hxe);have hev:=YZ e ht.1 (by have:=ht.2.1;omega);rw[(KO hk ht).1]at hev;have henc:=qc e;rw[henc]at hev;simp[e17,e18,e19,hlt',hxe,henc];refine qEJ hev (by simp) ?_;simp[e19,hdw];exact hR _ _ ⟨by simp[e1],by simp[e2],by simp[e17],by simp[e18],by simp,_,_,rfl⟩
 rintro ev U ⟨e1,e2,e17,e18,e19,u,T,rfl⟩;simp[e2,e18,e19];refine qEZ p.vars (fun d ev U=>ev 1=.sl 4 (l.map qp) .none/\ev 7=.map (u.length+1)/\ev 29=.sl 4 (p.vars.map qJ) .none/\ev 30=.int .i64 p.vars.length/\ev 31=.int .i64 d.length/\U.H[u.length+1]?=some (.map ((qbp (p.vars.take d.length)).map JT) d.length)) ?_ ?_ ?_
 . exact⟨by simp[e1],by simp,by simp,by simp,by simp,by simp[qbp]⟩
 . rintro d v rest ev ⟨H1,T1⟩ R hR hd hxv hlt ⟨e1,e7,e29,e30,e31,bM⟩;have hdw:=wr (n:=(d.length:Int)+1) (by omega) (by omega);have hlt':(d.length:Int)<p.vars.length:=(by omega);have hfn:=qrH hnd hxv 0;have ht1:=qjX hxv;have hMl:=(qAm.1 bM).1;have hup:∀(w:List Blk) (T:List (Option Nat)),zg (Dof prog) ⟨H1++w,T⟩ 313 (.map (u.length+1)) (.str v.name) (.bool true)=some ⟨H1.set (u.length+1) (.map ((qbp (p.vars.take (d.length+1))).map JT) (d.length+1))++w,T⟩:=fun w T=>by
    rw[ht1,qBp];generalize (qbp (p.vars.take d.length)).map JT=E at *;simp[zg,qd bM,zG,hfn,ku bM,JT]
   generalize hE2:(qbp (p.vars.take (d.length+1))).map JT=E2 at *;simp[e7,e29,e30,e31,hlt',hxv,hup,hdw];refine hR _ _ ⟨by simp[e1],by simp[e7],by simp[e29],by simp[e30],by simp,?_⟩;rw[qAq,qAQ,hE2];exact qd (qAt hMl) _
 rintro ev ⟨H1,T1⟩ ⟨e1,e7,e29,e30,e31,bM⟩;rw[qB7]at bM;simp[e1,e30,e31];refine qEZ l (fun d ev U=>ev 7=.map (u.length+1)/\ev 39=.sl 4 (l.map qp) .none/\ev 40=.int .i64 l.length/\ev 41=.int .i64 d.length/\U.H[u.length+1]?=some (.map ((qbp p.vars).map JT) p.vars.length)) ?_ ?_ ?_
 . exact⟨by simp[e7],by simp,by simp,by simp,bM⟩
 . rintro d e rest ev ⟨H2,T2⟩ R hR hd hxe hlt ⟨e7,e39,e40,e41,bM⟩;have hdw:=wr (n:=(d.length:Int)+1) (by omega) (by omega);obtain⟨hk,ht⟩:=hx e (qAn hxe);obtain⟨_,h0,hall,hfit⟩:=KO hk ht;have ha:=Qt e ht.1 ht.2.2;have hna:=ZO e ht.1 ht.2.2;have henc:=qc e;rw[h0]at ha;rw[henc]at ha hna;generalize zO [2] e=N at *;simp[e39,e40,e41,show(d.length:Int)<l.length by omega,hxe,henc];refine qEJ ha (by simp) ?_;simp;refine qEJ hna (by simp) ?_;simp;refine qEZ N (fun dn ev U=>ev 7=.map (u.length+1)/\ev 39=.sl 4 (l.map qp) .none/\ev 40=.int .i64 l.length/\ev 41=.int .i64 d.length/\ev 50=.sl 1 (N.map jk) .none/\ev 51=.int .i64 N.length/\ev 52=.int .i64 dn.length/\U.H[u.length+1]?=some (.map ((qbp p.vars).map JT) p.vars.length)) ?_ ?_ ?_
   . exact⟨by simp[e7],by simp[e39],by simp[e40],by simp[e41],by simp,by simp,by simp,qd bM _⟩
   . rintro dn s rest2 ev ⟨H3,T3⟩ R2 hR2 hd2 hxs hlt2 ⟨e7,e39,e40,e41,e50,e51,e52,bM⟩;have hdw2:=wr (n:=(dn.length:Int)+1) (by omega) (by omega);obtain⟨v,hvm,hvn⟩:=hall s (qAn hxs);obtain⟨j,hj⟩:=qrG hvm 0;rw[hvn]at hj;have hlk:zA (Dof prog) ⟨H3,T3⟩ 313 (.map (u.length+1)) (.str s) false=some (.bool true):=by
      generalize (qbp p.vars).map JT=E at *;simp[zA,bM,zG,hj]
     simp[e7,e50,e51,e52,show(dn.length:Int)<N.length by omega,hxs,hlk,hdw2];exact hR2 _ _ ⟨by simp[e7],by simp[e39],by simp[e40],by simp[e41],by simp[e50],by simp[e51],by simp,bM⟩
   rintro ev ⟨H3,T3⟩ ⟨e7,e39,e40,e41,e50,e51,e52,bM⟩;simp[e41,e51,e52,hdw];exact hR _ _ ⟨by simp[e7],by simp[e39],by simp[e40],by simp,bM⟩
 rintro ev ⟨H2,T2⟩ ⟨e7,e39,e40,e41,bM⟩;simp[e40,e41]
def WA(p)(h:VQ p)(hv:qk p=0)(hv20:p.vars.length<=20)(hb:kl p.vars (qK p)<=18)(l)(hf:l.length<=1000000)(hx:∀e∈l,zy p.vars e=0/\Jf e) :
 Pure prog GG 139 [.agg (qt p),.sl 4 (l.map qp) .none] (.tup [.bool (jO p.vars l),.int .i64 0]):=by
 refine qEG qe func139 rfl (by kernel_rfl) ?_;have hc:=qoz p h hv l hf hx;have hs:=Q9 p l h hv20 hb (by show l.length<_;omega) (fun e he=>(hx e he).2);have hsb:Ye p l=jO p.vars l:=by
  have:l.all (wD p.vars)=true:=qAv.2 fun e he=>decide_eq_true (hx e he).1
  unfold Ye;rw[this];simp[hv]
 rw[hsb]at hs;simp only[qt]at hc hs;simp;refine qEJ hc (by simp) ?_;simp;refine qEJ hs (by simp) ?_;simp
def Yk(p:Problem)(i:Nat):Str:=match p.vars[i]? with
 |some v=>v.name
 |none=>[]
noncomputable def qdV(p:Problem)(fx:Nat->Option Nat):List Nat->List Ex->Nat
 |[],R=>if jO p.vars R=true then 1 else 0
 |i::r,R=>if jO p.vars R=true then(wH (jz p i) (fx i)).foldl (fun s v=>sat (s+sat (wtP p i v*qdV p fx r (R++[eqE (Yk p i) (v:Int)])))) 0 else 0
def qqJ(p fx g R):qdV p fx g R<=lim:=by
 cases g with
 |nil=>unfold qdV lim;split<;>omega
 | cons i r=>
  unfold qdV;split
  . exact yS _ _ _ (qCf _)
  exact qCf _
def que:Tok->Tok
 |.chain .. =>.none
 |t=>t
def qsX(R:List Ex)(tok:Tok):Prop:=R≠[]\/tok=.tight
def qsX.p{R tok}(h:qsX R tok):R≠[]\/(que tok).known=true:=h.imp id fun e=>by rw[e];rfl
def qfK:List (Nat×Sch×List Nat):=[(10,.step 0 [10,9,8,7,1] (.step 1 [10,9,8,7] (.step 2 [10,9,8,7] (.step 3 [10,9,8,7,5,4] (.step 4 [10,9,8,7,5] (.step 5 [10,9,8,7] (.step 6 [10,9,8,7] (.step 7 [10,9,8] (.step 8 [10,9] (.step 9 [10] (.step 10 [] (.done))))))))))),[7]),(11,.step 0 [18,17] (.step 1 [18,17,16,15,9,4,3,2] (.step 2 [18,17,16,15,9,4,3] (.step 3 [18,17,16,15,9,4] (.step 4 [18,17,16,15,9] (.step 5 [18,17,16,15,9,7,6] (.step 6 [18,17,16,15,9,7] (.step 7 [18,17,16,15,9] (.step 8 [18,17,16,15,9] (.step 10 [18,17,16,15] (.step 11 [18,17,16,15,12] (.step 12 [18,17,16,15] (.step 13 [18,17,16,15] (.step 14 [18,17,16,15] (.step 9 [18,17,16,15] (.step 15 [18,17,16] (.step 16 [18,17] (.step 17 [18] (.step 18 [] (.done))))))))))))))))))),[9,15])]
def qms{s}(hvq:VQ s.p)(hvp:qk s.p=0)(hv20:s.p.vars.length<=20)(hb:kl s.p.vars (qK s.p)<=18){fx}(hfx:∀i x,fx i=some x->x<65536){m} :
 ∀ (g) (R) (tok) (H) (T),qtA s g->(∀e∈R,zy s.p.vars e=0/\Jf e)->R.length+g.length<=100000->qsX R tok->SpOk s H->qiy m fx H ->
  qg prog GG 84 [.ptr s.S 0,.sl 1 (g.map zL) .none,m,.sl 4 (R.map qp) tok] ⟨H,T⟩ (fun r U'=>r=.int .i64 (qdV s.p fx g R:Nat)/\KpL [] H U'.H):=by
 intro g
 induction g with
 | nil=>
  intro R tok H T hg hR hlen htok hs hf;refine qEH ⟨false,qfK,[],[]⟩ qe func84 rfl (by kernel_rfl) ?_;have hsv:=WA s.p hvq hvp hv20 hb R (by omega) hR;have hS:=hs.c;simp only[spE,qt,qAL,qAK]at hS;simp only[qt]at hsv;have hst:qdV s.p fx [] R=if jO s.p.vars R=true then 1 else 0:=rfl
  rw[hst];simp[hS];refine qEK hsv (by cases tok<;>simp) (by cases tok<;>simp[zn,Leq,qES]) ?_
  cases hsol:jO s.p.vars R with
  | false=>
   simp[unA];exact qFf
  | true=>
   simp[unA];exact qFf
 | cons i r ih=>
  intro R tok H T hg hR hlen htok hs hf;refine qEH ⟨false,qfK,[],[]⟩ qe func84 rfl (by kernel_rfl) ?_;have hsv:=WA s.p hvq hvp hv20 hb R (by omega) hR;have hS:=hs.c;simp only[spE,qt,qAL,qAK]at hS;simp only[qt]at hsv;obtain⟨v,l,hv,hw0,hw8,hl,hl20,hwn⟩:=hg i (by simp);have hval:=qbF hs hf hv ⟨hw0,hw8⟩ T;obtain⟨vals,hvals⟩:∃vals,vals=wH v.width.toNat (fx i):=⟨_,rfl⟩;rw[<- hvals]at hval;have hvb:∀x∈vals,x<65536:=fun x hx=>by
   rw[hvals]at hx
   cases hfi:fx i with
   | none=>
    rw[hfi]at hx;have:=qBq.1 hx;have:2^v.width.toNat<=2^8:=qAV (by omega) (by omega);omega
   | some y=>
    rw[hfi]at hx;have:x=y:=by simpa[wH] using hx
    rw[this];exact hfx i y hfi
  have hvl:vals.length<=256:=by
   rw[hvals]
   cases hfi:fx i with
   |none=>simp only[wH,qDW];exact qBf (qAV (by omega) (show v.width.toNat<=8 by omega)) (by decide)
   |some y=>simp[wH]
  have hsum:qdV s.p fx (i::r) R=if jO s.p.vars R=true then vals.foldl (fun a x=>sat (a+sat (wtP s.p i x*qdV s.p fx r (R++[eqE v.name (x:Int)])))) 0 else 0:=by
   rw[hvals,<- show jz s.p i=v.width.toNat by simp[jz,zM,hv],<- show Yk s.p i=v.name by simp[Yk,hv]];rfl
  obtain⟨f,hff⟩:∃f:Nat->Nat,∀x,f x=sat (wtP s.p i x*qdV s.p fx r (R++[eqE v.name (x:Int)])):=⟨_,fun _=>rfl⟩;have hfle:∀x,f x<=lim:=fun x=>by rw[hff];exact Ke _
  simp only[<- hff]at hsum;rw[hsum];simp[hS];refine qEK hsv (by cases tok<;>simp) (by cases tok<;>simp[zn,Leq,qES]) ?_
  cases hsol:jO s.p.vars R with
  | false=>
   simp[unA];exact qFf
  | true=>
   simp[unA,zL,show ¬(r.length:Int)+1=0 by omega];refine qEM hval ?_;rintro w ⟨H1,T1⟩ ⟨hk1,hrow⟩;have hlenr:=hrow.len;simp[-YA,hlenr];refine qEZ vals (fun dn ev U=>ev 0=.ptr s.S 0/\ev 1=.sl 1 ((i::r).map zL) .none/\ev 2=m/\ev 3=.sl 4 (R.map qp) tok/\ev 11=.int .i64 (dn.foldl (fun a x=>sat (a+f x)) 0:Nat)/\ev 38=w/\ev 39=.int .i64 vals.length/\ev 40=.int .i64 dn.length/\KpL [] H U.H/\qlU w vals U.H H.length) ?_ ?_ ?_
   . exact⟨by simp,by simp[zL],by simp,by simp,by simp,by simp,by simp,by simp,hk1,hrow⟩
   . rintro dn x rest ev ⟨H2,T2⟩ R2 hR2 hdl hx hlt ⟨e0,e1,e2,e3,e11,e38,e39,e40,hkp,hro⟩;obtain⟨a,ha1,ha2⟩:=hro.at hx;have hdw:=wr (n:=(dn.length:Int)+1) (by omega) (by omega);have hxb:=hvb x (qAn hx);have hs2:=hs.keep hkp (by simp) (by simp) (by simp);have hf2:=hf.keep hkp (by simp);have hcl:=qle R (que tok) htok.p;have heq:=qc5 hs2 hv (x:Int) T2;have hek:=qgz hvq hvp hv (n:=(x:Int)) (by omega) (by omega);have hae:=yF (eqE v.name (x:Int));have hl4:=zh (eqE v.name (x:Int));have hap:=fun H T=>qaL (R:=R) (X:=eqE v.name (x:Int)) (H:=H) (T:=T) (by omega)
     have hih:=fun n H T=>ih (R++[eqE v.name (x:Int)]) (.chain n 1) H T (fun j hj=>hg j (by simp[hj])) (fun e he=>by
      rcases qAC.1 he with he|he
      . exact hR e he
      rw[qA2]at he;rw[he];exact hek) (by rw[qAq];simp at hlen⊢;omega) (.inl (by simp))
     have hffx:=hff x;have hfx1:=hfle x;have hsl1:(((i::r).map zL).take (r.length+1)).drop 1=r.map zL:=by
      rw[qAs (by simp)];rfl
     generalize eqE v.name (x:Int)=X at *;simp[-zE,-kx,e38,e39,e40,show(dn.length:Int)<vals.length by omega,ha1,ha2];rw[qR rfl];simp[-qV,ze,e3];refine qEK hcl (by cases tok<;>simp) (by cases tok<;>simp[que]) ?_;simp[-qV,ze,e0,e1,zL];refine qEM heq ?_;rintro w3 ⟨H3,T3⟩ ⟨rfl,hk3⟩;have hs3:=hs2.keep hk3 (by simp) (by simp) (by simp);have hf3:=hf2.keep hk3 (by simp);have hS3:=hs3.c;simp only[spE,qt,qAL,qAK]at hS3;simp[-qV,ze,hae,hl4,qf,qm,hap];rw[qR rfl];obtain⟨o,ho⟩:∃o,(z8 s.p.vars.length s.p.dists)[i]?=some o:=⟨_,qAo (by rw[j8];exact(qAm.1 hv).1)⟩;have hweigh:=V4 s.p hs3.w ho (fun w hw=>hwn w (by rw[ho,hw])) (x:Int) (T3++[some 1]);rw[<- show wtP s.p i x=wtO o (x:Int) by simp[wtP,qAx,ho]]at hweigh;have hwle:=qfc s.p i x;have hsle:=qqJ s.p fx r (R++[X]);have hih1:=hih T3.length H3 (T3++[some 1]) hs3 hf3;generalize qdV s.p fx r (R++[X])=sd at *;generalize wtP s.p i x=wx at *;have hacc:dn.foldl (fun a x=>sat (a+f x)) 0<=lim:=yS f dn 0 (qCf _);have hsnoc:(dn++[x]).foldl (fun a x=>sat (a+f x)) 0=sat (dn.foldl (fun a x=>sat (a+f x)) 0+f x):=(by rw[qBj];rfl);generalize dn.foldl (fun a x=>sat (a+f x)) 0=acc at *;have ht:=qae wx sd hwle hsle;rw[<- hffx]at ht;have hp:=qjF acc (f x) hacc hfx1;simp only[qBp,qAz,qAZ]at hih1;have hsl2:zj (.sl 1 ([AV.int .i64 (i:Int)]::r.map zL) .none) (some (.int .i64 1)) none none=some (.sl 1 (r.map zL) .none):=by
      have h2:(1:Int)<=(r.length:Int)+1:=(by omega);simp[zj,zS,y8,zU,h2,qAs]
     simp[ze,e0,e1,e2,e11,hS3,zL,hsl2];refine qEM hweigh ?_;rintro w4 U ⟨rfl,rfl⟩;simp[ze];refine qEM hih1 ?_;rintro w5 ⟨H5,T5⟩ ⟨rfl,hk5⟩;simp[ze];refine qEJ ht (by simp) ?_;simp[ze];refine qEJ hp (by simp) ?_;simp[ze,e40,hdw];exact hR2 _ _ ⟨by simp[e0],by simp[e1,zL],by simp[e2],by simp[e3],by simp[hsnoc],by simp[e38],by simp[e39],by simp,(hkp.trans hk3).trans hk5,((hro.imp id fun⟨N,h1,h2,h3⟩=>⟨N,h1,h2,hk5.2 _ _ (hk3.2 _ _ h3 (by simp)) (by simp)⟩))⟩
   rintro ev ⟨H2,T2⟩ ⟨e0,e1,e2,e3,e11,e38,e39,e40,hkp,hro⟩;simp[e11,e39,e40];exact hkp
def yi(vs:List Var):List Int:=vs.map (·.value)
def qvG(vs:List Var)(H:List Blk)(r:AV)(U':St):Prop:=KpL [] H U'.H/\∃A t,r=Jd A t (yi vs)/\(vs≠[]->U'.H[A]?=some (.cells (zc (yi vs)))/\H.length<=A)
def qjt(p)(hl:p.vars.length<=1000)(H T):qg prog GG 152 [.agg (qt p)] ⟨H,T⟩ (qvG p.vars H):=by
 refine qEI qe func152 rfl (by kernel_rfl) ?_;by_cases hv0:p.vars=[]
 . have hq:∀u T',qvG p.vars H (.sl 1 [] (.chain T.length 0)) ⟨H++u,T'⟩:=fun u T'=>⟨qFh,H.length,T.length,by rw[hv0];rfl,fun h=>absurd hv0 h⟩
   rw[hv0]at hq;simp[-getElem?_pos,hv0,qI];refine qEO (fun m ev U=>ev 3=.sl 1 [] (.chain T.length 0)/\ev 4=.int .i64 0/\∃u T',U=⟨H++u,T'⟩) 0 ⟨by simp,by simp,_,_,rfl⟩ ?_;rintro m ev U R hR ⟨e3,e4,u,T',rfl⟩;simp[-getElem?_pos,e3,e4];exact hq u T'
 have hpos:=qAI.2 hv0;have hne:¬(p.vars.length:Int)=0:=by omega
 have hv1:(p.vars.length:Int)<=549755813888:=by omega
 simp[-getElem?_pos,hv0,hv1,qI];refine qEZ p.vars (fun d ev U=>ev 1=.ptr H.length 0/\ev 3=.ms (H.length+1) 0 p.vars.length 1/\ev 4=.int .i64 d.length/\∃H3,U=⟨H3,T⟩/\KpL [] H H3/\H3[H.length]?=some (.cells (qt p))/\H3[H.length+1]?=some (.cells (zc (yi d++List.replicate (p.vars.length-d.length) 0)))) ?_ ?_ ?_
 . refine⟨by simp,by simp,by simp,_,rfl,qFh,by simp,?_⟩;simp[yi,zc]
 . rintro d v rest ev U R hR hd hxv hlt ⟨e1,e3,e4,H3,rfl,hk,hP,hA⟩;have hdw:=wr (n:=(d.length:Int)+1) (by omega) (by omega);have hrl:List.replicate (p.vars.length-d.length) (0:Int)=0::List.replicate (p.vars.length-(d.length+1)) 0:=by
    rw[show p.vars.length-d.length=(p.vars.length-(d.length+1))+1 by omega,qCx]
   rw[hrl]at hA;have hsl:(yi d).length=d.length:=(by simp[yi]);have hlenA:(zc (yi d++0::List.replicate (p.vars.length-(d.length+1)) 0)).length=p.vars.length:=(by rw[qS];simp[hsl];omega);have hset:(zc (yi d++0::List.replicate (p.vars.length-(d.length+1)) 0)).set d.length (.int .i64 v.value)=zc (yi (d++[v])++List.replicate (p.vars.length-(d.length+1)) 0):=by
    rw[kD,qBc _ _ (by omega),hsl,qBm];simp[yi]
   have hAl:=(qAm.1 hA).1;have hml:d.length+1<=p.vars.length:=(by omega);simp only[qt]at hP;simp[-getElem?_pos,e1,e3,e4,hlt,hxv,hP,hA,hlenA,hset,hml,hdw];refine hR _ _ ⟨by simp[e1],by simp[e3],by simp,_,rfl,hk.setF (by omega),?_,?_⟩
   . rw[qAp (by omega)];exact hP
   rw[qAq,qAQ];exact qAt hAl
 rintro ev U ⟨e1,e3,e4,H3,rfl,hk,hP,hA⟩;rw[qBm,qC6,qA6]at hA;simp[-getElem?_pos,e3,e4];refine⟨hk,H.length+1,0,?_,fun _=>⟨hA,by omega⟩⟩;rw[Jd,if_neg (by simpa[yi] using hv0)];simp[yi]
