/- A part of the proof. -/
import Derived.Test.YtpgcmnabljandaaGreatDoorPa39
import Derived.Test.YtpgcmnabljandaaGreatDoorPa40
import Derived.Test.YtpgcmnabljandaaGreatDoorPa34
set_option linter.unusedVariables false
set_option linter.unusedSimpArgs false
set_option maxRecDepth 100000
set_option maxHeartbeats 16000000
set_option linter.defProp false
section
namespace Go.Proofs.YtpgcmnabljandaaGreatDoor
open Go Go.Abs
section
attribute [local simp] acells fin zh ze pl1 plain pl2 AV.atom
def qlM {α:Type}(sz:Nat)(en:α->List AV)(s:List α):AV:=match s with
 | []=>.sl 0 [] .nil
 | a::r=>.sl sz ((a::r).map en) (.chain 0 (r.length+1))
def qmL {α:Type}(s:List α):List (Option Nat):=match s with
 | []=>[]
 | _::r=>[some (r.length+1)]
theorem qmP {α:Type}{sz:Nat}{en:α->List AV}(s:List α)(H:List Blk)(hn:∀ x,qu (en x)=true):zg (fin H (qlM sz en s))=true/\Leq (fin H (qlM sz en s)) (.sl sz (s.map en) .none):=by
 cases s with
 | nil=>simp[qlM,Leq]
 | cons a r=>
  have h:=qS hn (a::r);refine⟨?_,Leq.sl rfl⟩;simpa[qlM] using h
def qiF (l:List Var)(a:List Int):List Signal:=(l.zip a).map fun q=>⟨q.1.name,q.2⟩
theorem qfl (l:List Var)(a:List Int):qlO l a=if a.length=l.length then qiF l a else []:=rfl
theorem qnJ {l:List Var}{a:List Int}{i:Nat}{v:Var}{x:Int}(h:l[i]?=some v)(h':a[i]?=some x):(qiF l a)[i]?=some ⟨v.name,x⟩:=by
 unfold qiF;rw[qrw,(qtH (z:=(v,x))).2 ⟨h,h'⟩];rfl
theorem qgM {l:List Var}{a:List Int}(h:a.length=l.length):(qiF l a).length=l.length:=by simp[qiF,h]
theorem qnI {l:List Var}{a:List Int}:(qlO l a).length<=l.length:=by
 rw[qfl];split
 . rename_i h;rw[qgM h];exact qrn _
 . simp
theorem env16 (p:Problem)(a:List Int)(hl:p.vars.length<=1000)(ha:Fits a):PZ 16 [.agg (yM p),.sl 1 (a.map qY) .none] (.sl 2 ((qlO p.vars a).map qD) .none):=by
 refine Pure.vc qg Tryz.func16 rfl (by kernel_rfl) ?_;by_cases hlen:a.length=p.vars.length
 . rw[qfl,if_pos hlen];have hE:=qgM hlen;simp[hlen];refine qC.intro (fun n ev O=>∃ i tl,i<=p.vars.length/\n=p.vars.length-i/\ev 1=.sl 1 (a.map qY) .none/\ev 5=qlM 2 qD ((qiF p.vars a).take i)/\ev 15=.sl 4 (p.vars.map qo) .none/\ev 16=.int .i64 p.vars.length/\ev 17=.int .i64 i/\O=⟨tl,qmL ((qiF p.vars a).take i)⟩) p.vars.length ⟨0,_,by simp,by simp,by simp,by simp[qlM],by simp,by simp,by simp,by simp[qmL];rfl⟩ ?_;rintro n ev O ⟨i,tl,hi,rfl,h1,h5,h15,h16,h17,rfl⟩
   cases hv:p.vars[i]? with
   | some v=>
    obtain⟨hc,hv'⟩:=qqV.1 hv;have hca:i<a.length:=(by omega);obtain⟨x,hx⟩:∃ x,a[i]?=some x:=⟨_,qq6 hca⟩;have hx':=(qqV.1 hx).2;have ht:(qiF p.vars a).take (i+1)=(qiF p.vars a).take i++[⟨v.name,x⟩]:=by
     rw[qrB,qnJ hv hx];rfl
    have hRl:((qiF p.vars a).take i).length<=1000:=(by simp;omega);generalize hR:(qiF p.vars a).take i=R at h5 ht hRl ⊢
    cases R with
    | nil=>
     simp only[qlM]at h5;simp[h1,h5,h15,h16,h17,hc,hca,hv',hx',qrg,qmL,Q2,Zs,Qb,qt,qI,zc,zD,ju];exact⟨_,by omega,i+1,by omega,rfl,by rw[ht];simp[qlM],wr (by omega) (by omega),by rw[ht];simp⟩
    | cons b r=>
     have hb:r.length<=1073741822:=(by simp at hRl;omega);simp only[qlM]at h5;simp[h1,h5,h15,h16,h17,hc,hca,hv',hx',qrg,qmL,Q2,Zs,Qb,qt,qI,zc,zD,ju,hb];exact⟨_,by omega,i+1,by omega,rfl,by rw[ht];simp[qlM],wr (by omega) (by omega),by rw[ht];simp⟩
   | none=>
    have hc:¬ i<p.vars.length:=(by simp at hv;omega);rw[qrb (by omega)]at h5 ⊢;have he:=qmP (sz:=2) (en:=qD) (qiF p.vars a) tl (fun x=>by simp);simp[h1,h5,h15,h16,h17,hc];exact he
 . rw[qfl,if_neg hlen];have hlen':¬ (a.length:Int)=p.vars.length:=(by omega);simp[hlen,hlen',Leq]
end
section
attribute [local simp] acells fin zh ze pl1 plain pl2 AV.atom
theorem qiM {e:Ex}(h:∀ x∈pre e,x.args.length<=1000/\x.name.length<=100000):Wen e:=fun x hx=>by
 have:=h x hx;constructor<;>omega
theorem qm6 {a:Str}{i:Nat}{x:Ex}(h:x∈pre (jS a i)):x=jS a i:=by simpa[Zb] using h
theorem qfY (l:List Var)(P:Str->Prop)(h0:P []):∀ e,(∀ x∈pre e,P x.name)->(∀ x∈pre e,∀ i,i<8->P (qH x.name i))->∀ y∈pre (scE l e),P y.name:=by
 have hitem:∀ (a:Str),(∀ i,i<8->P (qH a i))->∀ i,i<8->∀ y∈pre (jS a i),P y.name:=fun a ha i hi y hy=>by
  rw[qm6 hy];exact ha i hi
 have hconst:∀ n,∀ y∈pre (zI n),P y.name:=fun n y hy=>by
  have:y=zI n:=by simpa[QL] using hy
  rw[this];exact h0
 have hsum:∀ (a:Str),(∀ i,i<8->P (qH a i))->∀ k,k<8->∀ y∈pre (JU a k),P y.name:=by
  intro a ha k
  induction k with
  | zero=>intro hk;exact hitem a ha 0 hk
  | succ k ihk=>
   intro hk y hy;rw[JU,zb]at hy;simp only[Ex.args_mk,jF,qaS,qrl,qra,qre]at hy;rcases hy with rfl|hy|hy
   . exact h0
   . exact ihk (by omega) y hy
   . exact hitem a ha (k+1) hk y hy
 have hifs:∀ (a:Str) (idx:Ex) (n:Nat),(∀ i,i<8->P (qH a i))->(∀ y∈pre idx,P y.name)->n<=8->∀ k,k<=n->∀ y∈pre (Y7 a idx n k),P y.name:=by
  intro a idx n ha hidx hn k
  induction k with
  | zero=>intro _;exact hconst 0
  | succ k ihk=>
   intro hk y hy;rw[Y7,zb]at hy;simp only[Ex.args_mk,jF,qaS,qrl,qra,qre,zb (Ex.mk 15 0 [] _)]at hy;rcases hy with rfl|(rfl|hy|hy)|hy|hy
   . exact h0
   . exact h0
   . exact hidx y hy
   . exact hconst _ y hy
   . exact hitem a ha _ (by omega) y hy
   . exact ihk (by omega) y hy
 refine Ex.ind fun e ih h1 h2=>?_
 have self:e∈pre e:=by rw[zb];simp
 have sub:∀ a∈e.args,∀ x∈pre a,x∈pre e:=fun a ha x hx=>by rw[zb];exact qrk _ (jz.2 ⟨a,ha,hx⟩)
 have ih':∀ a∈e.args,∀ y∈pre (scE l a),P y.name:=fun a ha=>ih a ha (fun x hx=>h1 x (sub a ha x hx)) fun x hx=>h2 x (sub a ha x hx)
 have h8:=jy l e.name;rw[yT];split
 . exact hsum _ (h2 e self) _ (by omega)
 split
 . have hidx:∀ y∈pre (qc3 (e.args.map (scE l))),P y.name:=by
    cases hm:e.args with
    | nil=>exact hconst 0
    | cons a r=>exact ih' a (by rw[hm];simp)
   unfold jN;split
   . split
     . rename_i hlt;intro y hy;by_cases h0n:0<=(qc3 (e.args.map (scE l))).n
       . exact hitem _ (h2 e self) _ (by omega) y hy
       . have:(qc3 (e.args.map (scE l))).n.toNat=0:=by omega
         rw[this]at hy;exact hitem _ (h2 e self) 0 (by omega) y hy
     . exact hconst 0
   . exact hifs _ _ _ (h2 e self) hidx h8 _ (qrn _)
 . intro y hy;rw[zb]at hy;rcases qra.1 hy with rfl|hy
   . exact h1 e self
   . obtain⟨b,hb,hyb⟩:=jz.1 hy;obtain⟨a,ha,rfl⟩:=qq3.1 (show b∈e.args.map (scE l) from hb);exact ih' a ha y hyb
theorem ZS:∀ e,hgt e<=(pre e).length:=by
 refine Ex.ind fun e ih=>?_
 rw[jo,zb,qq5];have:∀ (m:List Ex),(∀ a∈m,hgt a<=(pre a).length)->Z4 m<=(ki m).length:=by
  intro m
  induction m with
  | nil=>simp
  | cons a r ihr=>
   intro h;have h1:=h a (by simp);have h2:=ihr fun x hx=>h x (by simp[hx])
   simp only[we,jF,qqY];omega
 have:=this e.args ih;omega
theorem qjo {l:List Var}{e:Ex}(hn:za e)(hu:Ko l e=false)(h4:¬ 400<(zx l e).1):Wen (scE l e)/\(pre (scE l e)).length<=400/\hgt (scE l e)<=400:=by
 have hlen:=(WE l e hn hu).len (by omega);have hs:=JW l e hn;have hnn:∀ y∈pre (scE l e),y.name.length<=2000:=by
  have hle:∀ x∈pre e,x.name.length<=1000:=by
   intro x hx;have hnx:za x:=by
    intro z hz;have tr:∀ e:Ex,∀ x∈pre e,∀ z∈pre x,z∈pre e:=by
     refine Ex.ind fun e ih x hx z hz=>?_
     rw[zb]at hx;rcases qra.1 hx with rfl|hx
     . exact hz
     . obtain⟨a,ha,hxa⟩:=jz.1 hx;rw[zb];exact qrk _ (jz.2 ⟨a,ha,ih a ha x hxa z hz⟩)
    exact hn z (tr e x hx z hz)
   exact qa2 hnx
  refine qfY l (fun s=>s.length<=2000) (by simp) e (fun x hx=>by have:=hle x hx;show x.name.length<=2000;omega) (fun x hx i hi=>by have:=hle x hx;simp;omega)
 have hh:=ZS (scE l e);exact⟨qiM fun x hx=>⟨hs x hx,by have:=hnn x hx;omega⟩,by omega,by omega⟩
attribute [local simp high] zO
attribute [local simp] z9 z8 zP jq zS zK zz jd zY jC
end
structure Few (l:List It):Prop where
 hold:∀ y∈zA l,Hold1 y
 low:∀ y∈zA l,Low1 y
 len:l.length<=1000
 all:(zA l).length<=900000
 size:∀ y∈zA l,(pre y.expr).length<=1000
theorem Few.holdI {l:List It}(h:Few l):∀ x∈l,yF x:=fun x hx y hy=>h.hold y (qV.2 ⟨x,hx,hy⟩)
theorem visitP {good:It->Prop}{f:It->Place->Int}{vf:FuncId}(h:∀ x p,p.depth<=1000000000->good x->PZ vf [.agg (qK x),.agg (kp p)] (I_ (f x p))){S:St->Prop}:qfI f vf [] [] S good:=by
 intro x p O hg hd _ _;exact qq.call (h x p hd hg) (by simp[kp]) ⟨rfl,Ext.refl⟩
theorem ql6 (l:List It)(h:Few l):PZ 177 [sI l] (I_ (yf l)):=by
 refine Pure.k qg Tryz.func177 rfl (by kernel_rfl) ?_;have hr:yf l=if 64<jj l then 2 else qh (fun y=>jD y.1 y.2.depth) (jl ⟨0,[]⟩ l):=rfl
 generalize yf l=r at hr;have hfit:Fits l:=by have:=h.len;unfold Fits;omega
 simp[-getElem?_pos];refine qd.call (qpj l hfit h.holdI) (by simp) ?_;by_cases h64:64<jj l
 . rw[if_pos h64]at hr;subst hr;simp[-getElem?_pos,h64]
 . rw[if_neg h64]at hr;subst hr;simp[-getElem?_pos,h64];have hw:=qiQ (f:=fun x p=>jD x p.depth) (vf:=244) (first:=[]) (cap:=[]) (S:=fun _=>True) (good:=fun x=>Hold1 x/\Low1 x/\(pre x.expr).length<=1000) (fun _ _ _ _=>trivial)
    (visitP fun x p hd hg=>qmi x p hg.1 hg.2.1 hd (by have:=ZS x.expr;have:=hg.2.2;omega)) l (fun y hy=>⟨h.hold y hy,h.low y hy,h.size y hy⟩) (fun y hy=>⟨(h.hold y hy).items,(h.hold y hy).els⟩) hfit
   refine qd.acall ((hw ⟨0,[]⟩ _ (by have:=h.all;simp;omega) (by have:=h.all;simp;omega) trivial).leq (by simp[kp,zt,Leq])) ?_;rintro v ⟨H,T⟩ ⟨rfl,_⟩;simp[-getElem?_pos]
def KVat (es:List (AV×AV×Nat))(s:Str):Option Int->Prop
 | some n=>∃ j,wo (.str s) es 0=some (some (j,I_ n))
 | none=>wo (.str s) es 0=some none
def KV (es:List (AV×AV×Nat))(F:yB):Prop:=∀ s,KVat es s (F s)
theorem JE (k:AV)(e:AV×AV×Nat):∀ (es:List (AV×AV×Nat)) (i:Nat),wo k (es++[e]) i=(match wo k es i with | some none=>(match Qv k e.1 with | some true=>some (some (i+es.length,e.2.1)) | some false=>some none | none=>none) | r=>r)
 | [],i=>by
  obtain⟨a,b,c⟩:=e;simp only[qrh,wo]
  cases Qv k a with
  | none=>rfl
  | some b=>cases b<;>rfl
 | (a,b,c)::r,i=>by
  simp only[qrd,wo]
  cases Qv k a with
  | none=>rfl
  | some q=>
   cases q with
   | true=>rfl
   | false=>
    simp only[JE k e r (i+1),qq5];rw[show i+1+r.length=i+(r.length+1) by omega]
theorem KV.add {es:List (AV×AV×Nat)}{F:yB}(h:KV es F){s0:Str}{n:Int}{c:Nat}(h0:F s0=none):KV (es++[(.str s0,I_ n,c)]) (fun s=>if s=s0 then some n else F s):=by
 intro s;have hs:=h s;show KVat _ s (if s=s0 then some n else F s);by_cases e:s=s0
 . subst e;rw[h0]at hs;simp only[KVat]at hs;rw[if_pos rfl];exact⟨es.length,by rw[JE,hs];simp[Qv]⟩
 . rw[if_neg e];have hk:Qv (.str s) (.str s0)=some false:=(by simp[Qv,e])
   cases hF:F s with
   | none=>
    rw[hF]at hs;simp only[KVat]at hs ⊢;rw[JE,hs];simp only[hk]
   | some m=>
    rw[hF]at hs;obtain⟨j,hj⟩:=hs;exact⟨j,by rw[JE,hj]⟩
theorem vD {es:List (AV×AV×Nat)}{F:yB}(h:KV es F){H:List Blk}{T:List (Option Nat)}{b clk:Nat}(hb:H[b]?=some (.map es clk))(s:Str)(ok:Bool) :
 yj (Dof Zp) ⟨H,T⟩ 147 (.map b) (.str s) ok=some (if ok=true then .tup [I_ ((F s).getD 0),.bool (F s).isSome] else I_ ((F s).getD 0)):=by
 have hs:=h s;simp only[yj,D147,jc,D9,hb]
 cases hF:F s with
 | none=>
  rw[hF]at hs;simp only[KVat]at hs;rw[hs];cases ok<;>simp[qg3]
 | some n=>
  rw[hF]at hs;obtain⟨j,hj⟩:=hs;rw[hj];cases ok<;>simp
theorem upd147 {es:List (AV×AV×Nat)}{F:yB}(h:KV es F){H:List Blk}{T:List (Option Nat)}{b clk:Nat}(hb:H[b]?=some (.map es clk)){s:Str}(h0:F s=none)(n:Int) :
 zQ (Dof Zp) ⟨H,T⟩ 147 (.map b) (.str s) (I_ n)=some ⟨H.set b (.map (es++[(.str s,I_ n,clk)]) (clk+1)),T⟩:=by
 have hs:=h s;rw[h0]at hs;simp only[KVat]at hs;simp only[zQ,D147,jc,D9,hb,hs];simp
def qar (H:List Blk)(b:Nat)(F:yB):Prop:=∃ es clk,H[b]?=some (.map es clk)/\KV es F
theorem qar.ext {O O':St}{b:Nat}{F:yB}(h:qar O.H b F)(he:Ext O O'):qar O'.H b F:=by
 obtain⟨es,clk,h1,h2⟩:=h;exact⟨es,clk,he.at h1,h2⟩
theorem qar.app {H t:List Blk}{b:Nat}{F:yB}(h:qar H b F):qar (H++t) b F:=by
 obtain⟨es,clk,h1,h2⟩:=h;exact⟨es,clk,qb h1 _,h2⟩
def Yb (l:List Fld):yB:=fun s=>(l.find? fun f=>f.name==s).map Fld.size
theorem V7 {d:List Fld}{v:Fld}(s:Str):Yb (d++[v]) s=match Yb d s with
 | some n=>some n
 | none=>if v.name=s then some v.size else none:=by
 unfold Yb;rw[qte]
 cases h:d.find? (fun f=>f.name==s) with
 | some x=>simp
 | none=>
  by_cases e:v.name=s
  . simp[e]
  . have:(v.name==s)=false:=by simpa using e
    simp[e,this]
theorem qkO {d:List Fld}{v:Fld}{n:Int}(h:Yb d v.name=some n):Yb (d++[v])=Yb d:=by
 funext s;rw[V7]
 cases hs:Yb d s with
 | some m=>rfl
 | none=>
  have:¬ v.name=s:=by rintro rfl;rw[hs]at h;cases h
  simp[this]
theorem qkP {d:List Fld}{v:Fld}(h:Yb d v.name=none):Yb (d++[v])=fun s=>if s=v.name then some v.size else Yb d s:=by
 funext s;rw[V7];by_cases e:s=v.name
 . subst e;simp[h]
 . have e':¬ v.name=s:=fun h=>e h.symm
   simp only[if_neg e,if_neg e'];cases Yb d s<;>rfl
theorem qpZ (c:Cls)(hf:Fits c.fields)(O:St):qq Zp GG 103 [.agg (qn c)] O (fun r O'=>∃ b,r=.map b/\qar O'.H b (qc c)/\Ext O O'):=by
 refine qq.k qg Tryz.func103 rfl (by kernel_rfl) ?_;obtain⟨H,T⟩:=O;simp[-getElem?_pos];refine qv.listR c.fields (fun d ev O=>ev 3=.map (H.length+1)/\ev 10=sF c.fields/\ev 11=I_ c.fields.length/\ev 12=I_ d.length/\∃ es clk t,KV es (Yb d)/\O=⟨H++.cells (qn c)::.map es clk::t,T⟩) ?_ ?_ ?_
 . refine⟨by simp,by simp,by simp,by simp,[],0,[],fun s=>rfl,by simp⟩
 . rintro d v r ev O R hR hd hv hlt ⟨h3,h10,h11,h12,es,clk,t,hkv,rfl⟩;have hb:(H++.cells (qn c)::.map es clk::t)[H.length+1]?=some (.map es clk):=(by simp);have lk:=fun (H':List Blk) (T':List (Option Nat)) (b:Nat) (s:Str) (ok:Bool) (h:H'[b]?=some (.map es clk))=>vD hkv (T:=T') h s ok
   simp[-getElem?_pos,h3,h10,h11,h12,hlt,hv]
   cases hF:Yb d v.name with
   | some n=>
    simp[-getElem?_pos,lk,hF,h12];exact hR _ _ ⟨h3,h10,h11,by simp;exact wr (by omega) (by omega),es,clk,_,by rw[qkO hF];exact hkv,rfl⟩
   | none=>
    have up:=fun (H':List Blk) (T':List (Option Nat)) (b:Nat) (h:H'[b]?=some (.map es clk))=>upd147 hkv (T:=T') h hF v.size
    simp[-getElem?_pos,lk,up,hF,h3,h12];exact hR _ _ ⟨h3,h10,h11,by simp;exact wr (by omega) (by omega),_,_,_,by rw[qkP hF];exact hkv.add hF,rfl⟩
 . rintro ev O ⟨h3,h10,h11,h12,es,clk,t,hkv,rfl⟩;simp[-getElem?_pos,h3,h11,h12];exact⟨⟨es,clk,by simp,hkv⟩,⟨_,[],by simp;rfl⟩⟩
section
section
variable {F:yB}{b:Nat}{H:List Blk}{T:List (Option Nat)}
theorem qbK (s:Str)(hm:qar H b F):qq Zp GG 248 [.map b,.str s] ⟨H,T⟩ (fun r O'=>r=I_ (W4 F s)/\O'=⟨H,T⟩):=by
 refine qq.k qg Tryz.func248 rfl (by kernel_rfl) ?_;obtain⟨es,clk,hb,hkv⟩:=hm;have lk:=fun (H':List Blk) (T':List (Option Nat)) (b:Nat) (s:Str) (ok:Bool) (h:H'[b]?=some (.map es clk))=>vD hkv (T:=T') h s ok
 have hr:W4 F s=match F s with | some n=>if n=0 then 9 else 0 | none=>7:=rfl
 generalize W4 F s=r at hr
 cases hF:F s with
 | none=>
  rw[hF]at hr;subst hr;simp[-getElem?_pos,lk,hb,hF]
 | some n=>
  rw[hF]at hr;by_cases h0:n=0
  . simp only[if_pos h0]at hr;subst hr;simp[-getElem?_pos,lk,hb,hF,h0]
  . simp only[if_neg h0]at hr;subst hr;simp[-getElem?_pos,lk,hb,hF,h0]
theorem qi5 {s a:Str}{i:Nat}(h:jr s a i)(hF:F s=none):Va F s=match F a with | some n=>if n=0 then 9 else if n<=i then 7 else 0 | none=>7:=by
 unfold Va;simp only[hF,wH h];cases F a<;>rfl
theorem qi4 {s:Str}(h:s.contains 91=false)(hF:F s=none):Va F s=7:=by
 unfold Va;rw[hF,ZP h]
theorem qi3 {s:Str}(h:js s=true)(hc:s.contains 91=true):∃ a i,jr s a i:=by
 unfold js at h;rcases Bool.or_eq_true_iff.1 h with h|h
 . exact absurd rfl (kE h 91 (qrZ.1 hc))
 . cases e:yb s with
   | none=>rw[e]at h;cases h
   | some p=>exact⟨p.1,p.2,jI.1 e⟩
theorem Kk (s:Str)(hs:Fits s)(hv:js s=true)(hm:qar H b F):qq Zp GG 254 [.map b,.str s] ⟨H,T⟩ (fun r O'=>r=I_ (Va F s)/\O'=⟨H,T⟩):=by
 refine qq.k qg Tryz.func254 rfl (by kernel_rfl) ?_;obtain⟨es,clk,hb,hkv⟩:=hm;have lk:=fun (H':List Blk) (T':List (Option Nat)) (b:Nat) (s:Str) (ok:Bool) (h:H'[b]?=some (.map es clk))=>vD hkv (T:=T') h s ok
 cases hF:F s with
 | some n=>
  have hr:Va F s=if 0<n then 9 else 0:=by unfold Va;rw[hF]
  rw[hr];by_cases h0:0<n
  . simp[-getElem?_pos,lk,hb,hF,h0]
  . simp[-getElem?_pos,lk,hb,hF,h0]
 | none=>
  simp[-getElem?_pos,lk,hb,hF];by_cases hc:s.contains 91=true
  . obtain⟨a,i,he⟩:=qi3 hv hc;obtain⟨q1,q2,q3⟩:=he.has;rw[qi5 he hF];refine qd.call (qgS GG s hs hc) (by simp) ?_;rw[q2,q3];have hi:=he.1;have e1:(UInt8.ofNat (48+i)).toNat=48+i:=(by simp[UInt8.toNat_ofNat'];omega);generalize UInt8.ofNat (48+i)=ch at e1 ⊢
    cases hFa:F a with
    | none=>simp[-getElem?_pos,lk,hb,hFa]
    | some n=>
     by_cases h0:n=0
     . simp[-getElem?_pos,lk,hb,hFa,h0]
     . have hsub:IntKind.i64.wrap (IntKind.u8.wrap ((ch.toNat:Int)-48))=(i:Int):=by
        rw[e1];simp[IntKind.wrap,IntKind.bits,IntKind.signed];omega
       by_cases hle:n<=(i:Int)
       . simp[-getElem?_pos,lk,hb,hFa,h0,hsub,hle,Zu]
       . simp[-getElem?_pos,lk,hb,hFa,h0,hsub,hle,Zu]
  . have hc':s.contains 91=false:=(by simpa using hc);rw[qi4 hc' hF];refine qd.call (qbC GG s hs hc') (by simp) ?_;cases hFs:F s<;>simp[-getElem?_pos,lk,hb,hFs]
theorem qdD (s:Str)(hs:Fits s)(hv:js s=true)(hm:qar H b F):qq Zp GG 247 [.map b,.str s] ⟨H,T⟩ (fun r O'=>r=I_ (zL F s)/\O'=⟨H,T⟩):=by
 refine qq.k qg Tryz.func247 rfl (by kernel_rfl) ?_;have hm':=hm;obtain⟨es,clk,hb,hkv⟩:=hm;have lk:=fun (H':List Blk) (T':List (Option Nat)) (b:Nat) (s:Str) (ok:Bool) (h:H'[b]?=some (.map es clk))=>vD hkv (T:=T') h s ok
 have hr:zL F s=if (F s).isSome=true\/Va F s=0 then 0 else 7:=rfl
 generalize zL F s=r at hr
 cases hF:F s with
 | some n=>
  rw[if_pos (.inl (by rw[hF];rfl))]at hr;subst hr;simp[-getElem?_pos,lk,hb,hF]
 | none=>
  simp[-getElem?_pos,lk,hb,hF];refine qd.acall (Kk s hs hv hm') ?_;rintro v O' ⟨rfl,rfl⟩;by_cases h0:Va F s=0
  . rw[if_pos (.inr h0)]at hr;subst hr;simp[-getElem?_pos,h0]
  . rw[if_neg (by rw[hF];simp[h0])]at hr;subst hr;simp[-getElem?_pos,h0]
theorem qgj {e:Ex}(h:za e){x:Ex}(hx:x∈pre e)(h2:x.op=2):js x.name=true:=by
 obtain⟨_,_,_,_,_,h,_⟩:=zy (h x hx);exact h h2
theorem JG (e:Ex)(bd:List Str)(hw:Wen e)(hlen:(pre e).length<=1000000)(hok:za e)(hbd:Fits bd)(hm:qar H b F) :
 qq Zp GG 187 [.map b,.agg (qz e),sS bd] ⟨H,T⟩ (fun r O'=>r=I_ (Ql F bd e)/\Ext ⟨H,T⟩ O'):=by
 refine qq.k qg Tryz.func187 rfl (by kernel_rfl) ?_;have hr:Ql F bd e=qh (Qu F bd) (pre e):=rfl;generalize Ql F bd e=r at hr;have hn:=qmZ e (fun x hx=>(hw x hx).1) hlen;rw[qa]at hn;simp only[qa];simp[-getElem?_pos];refine qd.call hn (by simp) ?_;simp[-getElem?_pos];refine qv.list (pre e) (fun d ev O=>ev 0=.map b/\ev 2=sS bd/\ev 11=.sl 4 ((pre e).map qz) .none/\ev 12=I_ (pre e).length/\ev 13=I_ d.length/\(∃ t,O=⟨H++t,T⟩)/\∀ x∈d,Qu F bd x=0) ?_ ?_ ?_
 . exact⟨by simp,by simp,by simp,by simp,by simp,⟨_,by simp;rfl⟩,by simp⟩
 . rintro d x l ev O hd hx hlt ⟨h0,h2,h11,h12,h13,⟨t,rfl⟩,hz⟩;have hxm:x∈pre e:=qqW hx;have hfx:Fits x.name:=(hw x hxm).2;have hm2:∀ t',qar (H++t') b F:=fun t'=>hm.app
   have hnd:Qu F bd x=if x.op=2 then (if bd.contains x.name=true then 0 else Va F x.name) else if x.op=3\/x.op=24 then W4 F x.name else 0:=rfl
   have hbad:Qu F bd x≠0->r=Qu F bd x:=fun h=>by rw[hr,hd];exact ja hz h
   have hgood:Qu F bd x=0->∀ y,y∈d\/y=x->Qu F bd y=0:=fun h=>Wk hz h
   generalize Qu F bd x=q at hnd hbad hgood;have hwr:IntKind.i64.wrap ((d.length:Int)+1)=d.length+1:=wr (by omega) (by omega);by_cases k2:x.op=2
   . rw[if_pos k2]at hnd;simp[-getElem?_pos,h2,h11,h12,h13,hlt,hx,qa x,k2];refine qd.call (kI GG bd x.name hbd) (by simp) ?_;have hcn:(bd.any fun v=>x.name==v)=bd.contains x.name:=by
      rw[qr5,qq2,qrZ];constructor
      . rintro⟨y,hy,h⟩;rw[eq_of_beq h];exact hy
      . intro h;exact⟨_,h,by simp⟩
     rw[hcn];cases hc:bd.contains x.name
     . rw[hc,if_neg (by simp)]at hnd;simp[-getElem?_pos,h0];refine qd.acall (Kk x.name hfx (qgj hok hxm k2) (by simpa using hm2 _)) ?_;rintro v O' ⟨rfl,rfl⟩;rw[<- hnd];by_cases hq:q=0
       . simp[-getElem?_pos,hq,h0,h2,h11,h12,h13,hwr];exact hgood hq
       . rw[hbad hq];simp[-getElem?_pos,hq];exact Ext.push
     . rw[hc,if_pos rfl]at hnd;simp[-getElem?_pos,h0,h2,h11,h12,h13,hwr];exact hgood hnd
   rw[if_neg k2]at hnd;by_cases k3:x.op=3\/x.op=24
   . rw[if_pos k3]at hnd;have fin:∀ (ops:Array Oper) (ct:Ct) (ks:List Fr) (Q:Exit->Env->St->Prop),True:=fun _ _ _ _=>trivial
     by_cases e3:x.op=3
     . simp[-getElem?_pos,h0,h11,h12,h13,hlt,hx,qa x,e3];refine qd.acall (qbK x.name (by simpa using hm2 _)) ?_;rintro v O' ⟨rfl,rfl⟩;rw[<- hnd];by_cases hq:q=0
       . simp[-getElem?_pos,hq,h0,h2,h11,h12,h13,hwr];exact hgood hq
       . rw[hbad hq];simp[-getElem?_pos,hq];exact Ext.push
     . have e24:x.op=24:=(by omega);simp[-getElem?_pos,h0,h11,h12,h13,hlt,hx,qa x,e24];refine qd.acall (qbK x.name (by simpa using hm2 _)) ?_;rintro v O' ⟨rfl,rfl⟩;rw[<- hnd];by_cases hq:q=0
       . simp[-getElem?_pos,hq,h0,h2,h11,h12,h13,hwr];exact hgood hq
       . rw[hbad hq];simp[-getElem?_pos,hq];exact Ext.push
   . rw[if_neg k3]at hnd;have e3:¬ x.op=3:=fun h=>k3 (.inl h)
     have e24:¬ x.op=24:=fun h=>k3 (.inr h)
     simp[-getElem?_pos,h0,h2,h11,h12,h13,hlt,hx,qa x,k2,e3,e24,hwr];exact hgood hnd
 . rintro ev O ⟨h0,h2,h11,h12,h13,⟨t,rfl⟩,hz⟩;rw[qr.2 hz]at hr;subst hr;simp[-getElem?_pos,h12,h13];exact Ext.push
end
end
theorem qa5 (x:It)(p:Place)(h3:x.kind=3):PZ 246 [.agg (qK x),.agg (kp p)] (.sl 1 [[.str x.name]] .none):=by
 refine Pure.k qg Tryz.func246 rfl (by kernel_rfl) ?_;simp only[ql,qa,kp];simp[-getElem?_pos,h3,qt]
theorem qa4 (x:It)(p:Place)(h6:x.kind=6)(hb:x.before.length<=1000)(ha:x.after.length<=1000):PZ 246 [.agg (qK x),.agg (kp p)] (.sl 1 ((x.before++x.after).map qs) .none):=by
 refine Pure.k qg Tryz.func246 rfl (by kernel_rfl) ?_;simp only[ql,qa,kp];simp[-getElem?_pos,h6];refine qd.less (qdL x.before x.after hb ha) (by simp) (by simp) ?_;simp[-getElem?_pos,zd]
structure Sound1 (x:It):Prop where
 hold:Hold1 x
 low:Low1 x
 size:(pre x.expr).length<=1000
 dist:x.kind=3->js x.name=true
 solve:x.kind=6->∀ s∈x.before++x.after,js s=true
 expr:x.kind≠3->x.kind≠5->x.kind≠6->za x.expr
theorem qbE {F:yB}{b:Nat}(x:It)(p:Place)(H:List Blk)(T:List (Option Nat))(h:Sound1 x)(hbd:Fits p.bound)(hm:qar H b F) :
 qq Zp GG 179 [.map b,.agg (qK x),.agg (kp p)] ⟨H,T⟩ (fun r O'=>r=I_ (vT F x p.bound)/\Ext ⟨H,T⟩ O'):=by
 refine qq.k qg Tryz.func179 rfl (by kernel_rfl) ?_;have hr:vT F x p.bound=if x.kind=3 then zL F x.name
  else if x.kind=6 then qh (zL F) (x.before++x.after)
  else if x.kind=5 then (if W4 F x.name≠0 then W4 F x.name else if (F x.index).isSome=true\/p.bound.contains x.index=true then 8 else 0)
  else Ql F p.bound x.expr:=rfl
 generalize vT F x p.bound=r at hr;have hm2:∀ t',qar (H++t') b F:=fun t'=>hm.app
 have hm3:=hm;by_cases k3:x.kind=3
 . rw[if_pos k3]at hr;have hmen:=qa5 x p k3;simp only[ql,qa,kp,qrd,qrh]at hmen;simp only[ql,qa,kp];simp[-getElem?_pos,k3];rw[k3]at hmen;refine qd.call hmen (by simp) ?_;simp[-getElem?_pos];refine qv.list [x.name] (fun d ev O=>ev 0=.map b/\ev 20=.sl 1 [[.str x.name]] .none/\ev 21=I_ 1/\ev 22=I_ d.length/\(∃ t,O=⟨H++t,T⟩)/\(d≠[]->r=0)) ?_ ?_ ?_
   . exact⟨by simp,by simp,by simp,by simp,⟨_,by simp;rfl⟩,by simp⟩
   . rintro d s l ev O hd hx hlt ⟨h0,h20,h21,h22,⟨t,rfl⟩,hz⟩;have hd0:d=[]:=by
      cases d with
      | nil=>rfl
      | cons a q=>simp at hlt
     subst hd0;simp at hx;subst hx;simp[-getElem?_pos,h0,h20,h21,h22];refine qd.acall (qdD x.name h.hold.name (h.dist k3) (hm2 _)) ?_;rintro v O' ⟨rfl,rfl⟩;rw[<- hr];by_cases hq:r=0
     . simp[-getElem?_pos,hq,h0,h20,h21,h22];exact wr (by omega) (by omega)
     . simp[-getElem?_pos,hq];exact Ext.push
   . rintro ev O ⟨h0,h20,h21,h22,⟨t,rfl⟩,hz⟩;have:=hz (by simp);subst this;simp[-getElem?_pos,h21,h22];exact Ext.push
 rw[if_neg k3]at hr;by_cases k6:x.kind=6
 . rw[if_pos k6]at hr;have hmen:=qa4 x p k6 h.low.before h.low.after;have hlen:(x.before++x.after).length<=2000:=(by have:=h.low.before;have:=h.low.after;simp;omega);have hnm:=h.hold.names;have hvs:=h.solve k6;generalize x.before++x.after=l at hr hmen hlen hnm hvs;simp only[ql,qa,kp,qrd,qrh]at hmen;simp only[ql,qa,kp];simp[-getElem?_pos,k6];rw[k6]at hmen;refine qd.call hmen (by simp) ?_;simp[-getElem?_pos];refine qv.list l (fun d ev O=>ev 0=.map b/\ev 20=sS l/\ev 21=I_ l.length/\ev 22=I_ d.length/\(∃ t,O=⟨H++t,T⟩)/\∀ s∈d,zL F s=0) ?_ ?_ ?_
   . exact⟨by simp,by simp,by simp,by simp,⟨_,by simp;rfl⟩,by simp⟩
   . rintro d s l' ev O hd hx hlt ⟨h0,h20,h21,h22,⟨t,rfl⟩,hz⟩;have hsm:=qqW hx;simp[-getElem?_pos,h0,h20,h21,h22,hlt,hx];refine qd.acall (qdD s (hnm s hsm) (hvs s hsm) (hm2 _)) ?_;rintro v O' ⟨rfl,rfl⟩;by_cases hq:zL F s=0
     . simp[-getElem?_pos,hq,h0,h20,h21,h22];exact⟨wr (by omega) (by omega),Wk hz hq⟩
     . have e:qh (zL F) l=zL F s:=(by rw[hd];exact ja hz hq);rw[hr,e];simp[-getElem?_pos,hq];exact Ext.push
   . rintro ev O ⟨h0,h20,h21,h22,⟨t,rfl⟩,hz⟩;rw[qr.2 hz]at hr;subst hr;simp[-getElem?_pos,h21,h22];exact Ext.push
 rw[if_neg k6]at hr;by_cases k5:x.kind=5
 . rw[if_pos k5]at hr;simp only[ql,qa,kp];simp[-getElem?_pos,k5];refine qd.acall (qbK x.name (hm2 _)) ?_;rintro v O' ⟨rfl,rfl⟩;by_cases hq:W4 F x.name=0
   . rw[if_neg (by simp[hq])]at hr;obtain⟨es,clk,hb,hkv⟩:=hm3;have lk:=fun (H':List Blk) (T':List (Option Nat)) (b:Nat) (s:Str) (ok:Bool) (h:H'[b]?=some (.map es clk))=>vD hkv (T:=T') h s ok
     cases hF:F x.index with
     | some n=>
      rw[if_pos (.inl (by rw[hF];rfl))]at hr;subst hr;simp[-getElem?_pos,hq,lk,qb hb,hF];exact Ext.push
     | none=>
      rw[hF]at hr;simp[-getElem?_pos,hq,lk,qb hb,hF];refine qd.call (kI GG p.bound x.index hbd) (by simp) ?_;have hcn:(p.bound.any fun v=>x.index==v)=p.bound.contains x.index:=by
       rw[qr5,qq2,qrZ];constructor
       . rintro⟨y,hy,h⟩;rw[eq_of_beq h];exact hy
       . intro h;exact⟨_,h,by simp⟩
      rw[hcn];cases hc:p.bound.contains x.index
      . rw[hc,if_neg (by simp)]at hr;subst hr;simp[-getElem?_pos];exact Ext.push
      . rw[hc,if_pos (by simp)]at hr;subst hr;simp[-getElem?_pos];exact Ext.push
   . rw[if_pos hq]at hr;subst hr;simp[-getElem?_pos,hq];exact Ext.push
 rw[if_neg k5]at hr;have hx:=fun t=>JG (F:=F) (b:=b) (H:=H++t) (T:=T) x.expr p.bound h.low.wen (by have:=h.size;omega) (h.expr k3 k5 k6) hbd (hm2 t)
 simp only[ql,qa,kp];simp only[qa]at hx;simp[-getElem?_pos,k3,k5,k6];refine qd.acall (hx _) ?_;rintro v O' ⟨rfl,he⟩;subst hr;simp[-getElem?_pos];exact Ext.push.trans he
theorem qlU:∀ (x:It) (p:Place),∀ y∈Zy x,∃ q,(y,q)∈qg8 p x:=by
 refine It.ind fun x h1 h2 p y hy=>?_
 rw[qX]at hy;rw[v8];rcases qra.1 hy with rfl|hy
 . exact⟨p,by simp⟩
 rcases qre.1 hy with hy|hy
 . obtain⟨a,ha,hya⟩:=qV.1 hy;obtain⟨q,hq⟩:=h1 a ha (ym x p) y hya;exact⟨q,qrk _ (qrD _ (kl.2 ⟨a,ha,hq⟩))⟩
 . obtain⟨a,ha,hya⟩:=qV.1 hy;obtain⟨q,hq⟩:=h2 a ha (jx x p) y hya;exact⟨q,qrk _ (qrK _ (kl.2 ⟨a,ha,hq⟩))⟩
theorem qiU {p:Place}{l:List It}{y:It}(h:y∈zA l):∃ q,(y,q)∈jl p l:=by
 obtain⟨a,ha,hy⟩:=qV.1 h;obtain⟨q,hq⟩:=qlU a p y hy;exact⟨q,kl.2 ⟨a,ha,hq⟩⟩
theorem qb6 {l:List It}(h:yf l=0){y:It}(hy:y∈zA l):∃ d,jD y d=0:=by
 unfold yf at h;split at h
 . cases h
 . obtain⟨q,hq⟩:=qiU (p:=⟨0,[]⟩) hy;exact⟨q.depth,qr.1 h _ hq⟩
structure Shape1 (x:It):Prop where
 kind:1<=x.kind/\x.kind<=6
 plain:yA x=true
 dist:x.kind=3->js x.name=true/\jk x.ws=0
 solve:x.kind=6->x.before≠[]/\x.after≠[]/\∀ s∈x.before++x.after,js s=true
 each:x.kind=5->qO x.name=true/\qO x.index=true
 expr:x.kind≠3->x.kind≠5->x.kind≠6->qM x.expr=0
theorem Qc {x:It}{d:Nat}(h:jD x d=0):Shape1 x:=by
 unfold jD at h;split at h
 . cases h
 rename_i h1;have hk:wQ x.kind=true:=by
  cases e:wQ x.kind with
  | true=>rfl
  | false=>exact absurd (.inl e) h1
 have hp:yA x=true:=by
  cases e:yA x with
  | true=>rfl
  | false=>exact absurd (.inr (.inl e)) h1
 have hk':1<=x.kind/\x.kind<=6:=by simpa[wQ] using hk
 split at h
 . rename_i k3;split at h
   . rename_i hw;exact absurd h hw
   rename_i hw;split at h
   . cases h
   rename_i hv;exact⟨hk',hp,fun _=>⟨by simpa using hv,qrF.1 hw⟩,by omega,by omega,by omega⟩
 rename_i k3;split at h
 . rename_i k6;split at h
   . cases h
   rename_i hb;split at h
   . cases h
   rename_i hv;refine⟨hk',hp,by omega,fun _=>⟨fun e=>hb (.inl e),fun e=>hb (.inr e),fun s hs=>?_⟩,by omega,by omega⟩
   cases e:js s with
   | true=>rfl
   | false=>exact absurd (qq2.2 ⟨s,hs,by simp[e]⟩) hv
 rename_i k6;split at h
 . rename_i k5;split at h
   . cases h
   rename_i hn;refine⟨hk',hp,by omega,by omega,fun _=>⟨?_,?_⟩,by omega⟩
   . cases e:qO x.name with
     | true=>rfl
     | false=>exact absurd (.inl e) hn
   . cases e:qO x.index with
     | true=>rfl
     | false=>exact absurd (.inr e) hn
 rename_i k5;exact⟨hk',hp,by omega,by omega,by omega,fun _ _ _=>h⟩
theorem Few.sound {l:List It}(h:Few l)(hv:yf l=0){y:It}(hy:y∈zA l):Sound1 y:=by
 obtain⟨d,hd⟩:=qb6 hv hy;have hs:=Qc hd;exact⟨h.hold y hy,h.low y hy,h.size y hy,fun k=>(hs.dist k).1,fun k=>(hs.solve k).2.2,fun a b c=>jK (hs.expr a b c)⟩
theorem qnZ (l:List It)(c:Cls)(h:Few l)(hf:Fits c.fields):PZ 102 [sI l,.agg (qn c)] (I_ (jJ (qc c) l)):=by
 refine Pure.k qg Tryz.func102 rfl (by kernel_rfl) ?_;have hr:jJ (qc c) l=if yf l≠0 then yf l else qh (fun y=>vT (qc c) y.1 y.2.bound) (jl ⟨0,[]⟩ l):=rfl
 generalize jJ (qc c) l=r at hr;have hfit:Fits l:=by have:=h.len;unfold Fits;omega
 simp;refine qd.call (ql6 l h) (by simp) ?_;by_cases hv:yf l=0
 . rw[if_neg (by simp[hv])]at hr;subst hr;simp[hv];have hof:=fun O=>qpZ c hf O
   simp only[qn]at hof;refine qd.acall (hof _) ?_;rintro v ⟨H,T⟩ ⟨b,rfl,hm,_⟩;simp;have hw:=qiQ (f:=fun x p=>vT (qc c) x p.bound) (vf:=179) (first:=[.map b]) (cap:=[]) (S:=fun O=>qar O.H b (qc c)) (good:=Sound1) (fun O O' hs he=>hs.ext he)
    (fun x p O hg _ hb hs=>qbE x p O.H O.T hg (by unfold Fits;omega) hs) l (fun y hy=>h.sound hv hy) (fun y hy=>⟨(h.hold y hy).items,(h.hold y hy).els⟩) hfit
   refine qd.acall ((hw ⟨0,[]⟩ ⟨H,T⟩ (by have:=h.all;simp;omega) (by have:=h.all;simp;omega) hm).leq (by simp[kp,zt,Leq])) ?_;rintro v ⟨H,T⟩ ⟨rfl,_⟩;simp
 . rw[if_pos hv]at hr;subst hr;simp[hv]
theorem VH (g:Ex->Ex)(vf:FuncId)(cap:List AV)(S:St->Prop)(hS:∀ O O',S O->Ext O O'->S O')(e:Ex)(hl:e.args.length<=1000)
 (hv:∀ a∈e.args,∀ O,S O->qq Zp GG vf ([.agg (qz a)]++cap) O (fun r O'=>r=.agg (qz (g a))/\Ext O O')) (O:St) (hs:S O) :
 qq Zp GG 366 [.agg (qz e),.fn vf [] cap] O (fun r O'=>r=.agg (qz (.mk e.op e.n e.name (e.args.map g)))/\Ext O O'):=by
 refine qq.up ?_;refine qq.k qg Tryz.func366 rfl (by kernel_rfl) ?_;obtain⟨H,T⟩:=O;simp only[qa e];simp[-getElem?_pos];refine qv.listR e.args (fun d ev O=>ev 1=.fn vf [] cap/\ev 2=.ptr H.length 0/\ev 4=.ptr (H.length+1) 0/\ev 9=sE e.args/\ev 10=I_ e.args.length/\ev 11=I_ d.length /\
  ∃ t T',O=⟨H++.cells [I_ e.op,I_ e.n,.str e.name,sE e.args]::.cells [I_ 0,I_ 0,.str [],.sl 0 [] .nil]::t,T'⟩/\T <+: T'/\yc T.length 4 qz T' (ev 5) (d.map g)) ?_ ?_ ?_
 . exact⟨by simp,by simp,by simp,by simp,by simp,by simp,[],T,by simp,qr6,by simpa using yc.nil⟩
 . rintro d a r ev O R hR hd hx hlt ⟨h1,h2,h4,h9,h10,h11,t,T',rfl,hT,ho⟩;have hm:=qqW hx;simp[-getElem?_pos,h1,h9,h10,h11,hlt,hx,qa a];have hva:=hv a hm;simp only[qa a]at hva;refine qd.acall (by simpa using hva _ (hS _ ⟨_,_⟩ hs (Ext.pushT hT))) ?_;rintro v ⟨H2,T2⟩ ⟨rfl,he⟩;obtain⟨t2,u2,he⟩:=he;simp only[St.mk.injEq]at he;obtain⟨rfl,rfl⟩:=he;have hT2:T <+: T'++u2:=hT.trans (qrY _ _);obtain⟨v',T3,happ,ho3,hT3⟩:=(ho.ext (qrY T' u2)).append (m:=[g a]) (tok:=.tight) hT2 D32 rfl D55 rfl (by omega) rfl (by decide) (by simp;omega) 4 (.inl rfl);have happ':=happ;simp only[qqZ,qq9,qa (g a)]at happ';generalize hv5:ev 5=v5 at *;simp[-getElem?_pos,qa (g a),happ',h11];refine hR _ _ ⟨h1,h2,h4,h9,h10,by simp;exact wr (by omega) (by omega),_,T3,by simp;rfl,hT3,?_⟩;simpa using ho3
 . rintro ev O ⟨h1,h2,h4,h9,h10,h11,t,T',rfl,hT,ho⟩;have hac:=ho.acells;have hat:=ho.atom;have hle:=ho.leq;generalize hv5:ev 5=v5 at *;simp[-getElem?_pos,hv5,h2,h4,h10,h11,hac,hat];refine⟨_,?_,rfl,?_⟩
   . simp only[qa,Leq,zt,Ex.op_mk,Ex.n_mk,Ex.name_mk,Ex.args_mk];simpa using hle
   . exact Ext.pushT hT
theorem qkd (e:Ex):Ex.mk e.op e.n e.name e.args=e:=by cases e;rfl
theorem qlb:∀ e,vG e->PZ 365 [.agg (qz e)] (.agg (qz e)):=by
 refine Ex.ind fun e ih hs=>?_
 refine Pure.k qg Tryz.func365 rfl (by kernel_rfl) ?_;have hr:=fun O=>VH id 365 [] (fun _=>True) (fun _ _ _ _=>trivial) e hs.self (fun a ha O _=>qq.call (ih a ha (hs.arg ha)) (by simp) ⟨rfl,Ext.refl⟩) O trivial
 simp only[List.map_id,qkd]at hr;simp only[qa e]at hr ⊢;simp[-getElem?_pos];refine qd.acall (hr _) ?_;rintro v ⟨H,T⟩ ⟨rfl,t,u,hE⟩;simp only[St.mk.injEq]at hE;obtain⟨rfl,rfl⟩:=hE;simp[-getElem?_pos]
theorem qfS (s:Str)(by':Ex)(hb:vG by'):∀ e,vG e->PZ 316 [.agg (qz e),.str s,.agg (qz by')] (.agg (qz (qZ s by' e))):=by
 refine Ex.ind fun e ih hs=>?_
 refine Pure.k qg Tryz.func316 rfl (by kernel_rfl) ?_;have hc:=qlb by' hb
 rw[kf];by_cases h2:e.op=2/\e.name=s
 . rw[if_pos h2];simp only[qa e,qa by']at hc ⊢;simp[-getElem?_pos,h2.1,h2.2];refine qd.call hc (by simp) ?_;simp[-getElem?_pos]
 . rw[if_neg h2];have vis:∀ a∈e.args,∀ O:St,(O.H[1]?=some (.cells [.str s])/\O.H[2]?=some (.cells (qz by')))->qq Zp GG 367 ([.agg (qz a)]++[.ptr 1 0,.ptr 2 0]) O (fun r O'=>r=.agg (qz (qZ s by' a))/\Ext O O'):=by
    rintro a ha ⟨H,T⟩ ⟨e1,e2⟩;refine qq.k qg Tryz.func367 rfl (by kernel_rfl) ?_;have i1:=ih a ha (hs.arg ha);simp only[qa a,qa by']at e1 e2 i1 ⊢;simp[-getElem?_pos,qb e1,qb e2];refine qd.call i1 (by simp) ?_;simp[-getElem?_pos,qa (qZ s by' a)];exact Ext.push
   have hr:=fun O hσ=>VH (qZ s by') 367 [.ptr 1 0,.ptr 2 0] (fun O=>O.H[1]?=some (.cells [.str s])/\O.H[2]?=some (.cells (qz by'))) (fun O O' h he=>by
    obtain⟨t,u,rfl⟩:=he;exact⟨qb h.1 _,qb h.2 _⟩) e hs.self vis O hσ
   simp only[qa e,qa by']at hr ⊢;have fin:∀ (ev:Env),True:=fun _=>trivial
   by_cases k2:e.op=2
   . have kn:¬ e.name=s:=fun h=>h2 ⟨k2,h⟩
     rw[k2]at hr;simp[-getElem?_pos,k2,kn];refine qd.acall (hr _ (by simp)) ?_;rintro v ⟨H,T⟩ ⟨rfl,t,u,hE⟩;simp only[St.mk.injEq]at hE;obtain⟨rfl,rfl⟩:=hE;have hnr:=nrEs (e.args.map (qZ s by'));simp only[qr2]at hnr;simp[-getElem?_pos,qa (Ex.mk _ _ _ _),hnr]
   . simp[-getElem?_pos,k2];refine qd.acall (hr _ (by simp)) ?_;rintro v ⟨H,T⟩ ⟨rfl,t,u,hE⟩;simp only[St.mk.injEq]at hE;obtain⟨rfl,rfl⟩:=hE;have hnr:=nrEs (e.args.map (qZ s by'));simp only[qr2]at hnr;simp[-getElem?_pos,qa (Ex.mk _ _ _ _),hnr]
theorem Y0:vG zEx:=wO (by simp) (by simp)
theorem qdJ (e:Ex)(hs:vG e):PZ 250 [.agg (qz e)] (.agg (qz (qZ [] zEx e))):=by
 refine Pure.k qg Tryz.func250 rfl (by kernel_rfl) ?_;have h:=qfS [] zEx Y0 e hs;simp only[qa e]at h ⊢;simp[-getElem?_pos];refine qd.less h (by simp) (by simp[zEx,qa]) ?_;simp[-getElem?_pos,qa (qZ [] zEx e)]
section
attribute [local simp] acells fin zh ze pl1 plain pl2 AV.atom
theorem Js {o n:Int}{s:Str}{a:List Ex}:pre (.mk o n s a)=.mk o n s a::ki a:=zb _
theorem ZI {s:Str}{b:Ex}(hb:vG b):∀ e,vG e->vG (qZ s b e):=by
 refine Ex.ind fun e ih hs=>?_
 rw[kf];split
 . exact hb
 . refine wO (by simpa using hs.self) fun x hx=>?_
   obtain⟨a,ha,rfl⟩:=qq3.1 hx;exact ih a ha (hs.arg ha)
theorem qbV {o n:Int}{s:Str}{a:List Ex}(h:Fits a)(hs:Fits s)(ha:∀ x∈a,Wen x):Wen (.mk o n s a):=by
 intro x hx;rw[Js]at hx;rcases qra.1 hx with rfl|hx
 . exact⟨h,hs⟩
 . obtain⟨y,hy,hxy⟩:=jz.1 hx;exact ha y hy x hxy
theorem JQ {s:Str}{b:Ex}(hb:Wen b):∀ e,Wen e->Wen (qZ s b e):=by
 refine Ex.ind fun e ih hs=>?_
 rw[kf];split
 . exact hb
 . refine qbV (by simpa using hs.fits) hs.nm fun x hx=>?_
   obtain⟨a,ha,rfl⟩:=qq3.1 hx;exact ih a ha (hs.arg ha)
theorem VK {s:Str}{b:Ex}(hb:b.args=[]):∀ e,(pre (qZ s b e)).length<=(pre e).length:=by
 refine Ex.ind fun e ih=>?_
 rw[kf];split
 . rw[zb b,hb,zb e];simp
 . rw[Js,zb e,qq5,qq5,Jt,Jt,qr2];have:∀ l:List Ex,(∀ a∈l,(pre (qZ s b a)).length<=(pre a).length)->(l.map ((fun e=>(pre e).length)∘qZ s b)).sum<=(l.map fun e=>(pre e).length).sum:=by
    intro l
    induction l with
    | nil=>simp
    | cons x r ihl=>
     intro h;have h1:=h x (by simp);have h2:=ihl fun a ha=>h a (by simp[ha])
     simp only[qqZ,qsK,Function.comp_apply];omega
   have:=this e.args ih;omega
theorem kz {s:Str}{b:Ex}{x:It}:(qN s b x).kind=x.kind:=by rw[yg];rfl
theorem kA {s:Str}{b:Ex}{x:It}:(qN s b x).expr=qZ s b x.expr:=by rw[yg];rfl
theorem Kw {s:Str}{b:Ex}{x:It}:(qN s b x).name=x.name:=by rw[yg];rfl
theorem qce {s:Str}{b:Ex}{x:It}:(qN s b x).index=x.index:=by rw[yg];rfl
theorem qcd {s:Str}{b:Ex}{x:It}:(qN s b x).ws=x.ws:=by rw[yg];rfl
theorem vd {s:Str}{b:Ex}{x:It}:(qN s b x).items=x.items.map (qN s b):=by rw[yg];rfl
theorem Q5 {s:Str}{b:Ex}{x:It}:(qN s b x).els=x.els.map (qN s b):=by rw[yg];rfl
theorem wy {s:Str}{b:Ex}{x:It}:(qN s b x).before=x.before:=by rw[yg];rfl
theorem vh {s:Str}{b:Ex}{x:It}:(qN s b x).after=x.after:=by rw[yg];rfl
theorem J3 {s:Str}{b:Ex}:∀ x,Zy (qN s b x)=(Zy x).map (qN s b):=by
 refine It.ind fun x h1 h2=>?_
 rw[qX,qX x,vd,Q5,qqZ,qrf];have:∀ l:List It,(∀ a∈l,Zy (qN s b a)=(Zy a).map (qN s b))->zA (l.map (qN s b))=(zA l).map (qN s b):=by
  intro l
  induction l with
  | nil=>simp[zA]
  | cons a r ih=>
   intro h;simp only[qqZ,zA,qrf];rw[h a (by simp),ih fun y hy=>h y (by simp[hy])]
 rw[this _ h1,this _ h2]
structure Wee1 (x:It):Prop where
 low:Low1 x
 size:(pre x.expr).length<=1000
def Vp (x:It):Prop:=∀ y∈Zy x,Wee1 y
theorem Vp.self {x:It}(h:Vp x):Wee1 x:=h x (by rw[qX];simp)
theorem Vp.item {x y:It}(h:Vp x)(hy:y∈x.items):Vp y:=fun z hz=>h z (by rw[qX];exact qrk _ (qrD _ (qV.2 ⟨y,hy,hz⟩)))
theorem Vp.els {x y:It}(h:Vp x)(hy:y∈x.els):Vp y:=fun z hz=>h z (by rw[qX];exact qrk _ (qrK _ (qV.2 ⟨y,hy,hz⟩)))
theorem Vp.lowI {x:It}(h:Vp x):W9 x:=fun y hy=>(h y hy).low
def cEx (n:Int):Ex:=.mk 1 n [] []
theorem qaG (n:Int):vG (cEx n):=wO (by simp) (by simp)
theorem qiN (n:Int):Wen (cEx n):=qbV (by simp) (by simp) (by simp)
theorem Vp.subst {x:It}(h:Vp x)(s:Str)(n:Int):Vp (qN s (cEx n) x):=by
 intro y hy;rw[J3]at hy;obtain⟨z,hz,rfl⟩:=qq3.1 hy;obtain⟨lo,sz⟩:=h z hz;refine⟨⟨?_,?_,?_,?_,?_,?_,?_⟩,?_⟩
 . rw[kA];exact ZI (qaG n) _ lo.slim
 . rw[kA];exact JQ (qiN n) _ lo.wen
 . rw[qcd];exact lo.ws
 . rw[vd];simpa using lo.items
 . rw[Q5];simpa using lo.els
 . rw[wy];exact lo.before
 . rw[vh];exact lo.after
 . rw[kA];have:=VK (s:=s) (b:=cEx n) rfl z.expr;omega
mutual
def jG:It->Nat
 | .mk _ _ _ _ _ l m _ _=>1+max (wC l) (wC m)
def wC:List It->Nat
 | []=>0
 | x::r=>max (jG x) (wC r)
end
theorem j6 (x:It):jG x=1+max (wC x.items) (wC x.els):=by cases x;simp[jG,It.items,It.els]
theorem qcG {l:List It}{x:It}(h:x∈l):jG x<=wC l:=by
 induction l with
 | nil=>cases h
 | cons a r ih=>
  simp only[wC];rcases qra.1 h with rfl|h
  . omega
  . have:=ih h;omega
theorem qgk {l:List It}{n:Nat}(h:∀ x∈l,jG x<=n):wC l<=n:=by
 induction l with
 | nil=>simp[wC]
 | cons a r ih=>
  have h1:=h a (by simp);have h2:=ih fun x hx=>h x (by simp[hx])
  simp only[wC];omega
theorem yU {x y:It}(h:y∈x.items):jG y<jG x:=by
 have:=qcG h;rw[j6 x];omega
theorem vO {x y:It}(h:y∈x.els):jG y<jG x:=by
 have:=qcG h;rw[j6 x];omega
theorem KZ {s:Str}{b:Ex}:∀ x,jG (qN s b x)=jG x:=by
 refine It.ind fun x h1 h2=>?_
 have:∀ l:List It,(∀ a∈l,jG (qN s b a)=jG a)->wC (l.map (qN s b))=wC l:=by
  intro l
  induction l with
  | nil=>simp[wC]
  | cons a r ih=>
   intro h;simp only[qqZ,wC];rw[h a (by simp),ih fun y hy=>h y (by simp[hy])]
 rw[j6,j6 x,vd,Q5,this _ h1,this _ h2]
theorem VL {x:It}(h:Shape1 x)(h4:x.kind≠4):x.els=[]/\(x.kind≠5->x.items=[]):=by
 have hp:=h.plain;simp only[yA,qq1,qrV,decide_eq_true_eq]at hp;obtain⟨⟨⟨⟨⟨⟨a1,a2⟩,a3⟩,a4⟩,a5⟩,a6⟩,a7⟩:=hp;refine⟨a6.resolve_left h4,fun h5=>a5.resolve_left (by omega)⟩
theorem qhV:∀ (x:It) (p:Place),(∀ y∈qg8 p x,jD y.1 y.2.depth=0)->jG x+p.depth<=5:=by
 refine It.ind fun x h1 h2 p h=>?_
 have h0:jD x p.depth=0:=h (x,p) (qbY p x);have hs:=Qc h0;have hd:p.depth<=4:=by
  unfold jD at h0;split at h0
  . cases h0
  . rename_i hn;apply Classical.byContradiction;intro hc;exact hn (.inr (.inr (.inl (by omega))))
 have i1:∀ a∈x.items,jG a+(ym x p).depth<=5:=fun a ha=>h1 a ha _ fun y hy=>h y (by
  rw[v8];exact qrk _ (qrD _ (kl.2 ⟨a,ha,hy⟩)))
 have i2:∀ a∈x.els,jG a+(jx x p).depth<=5:=fun a ha=>h2 a ha _ fun y hy=>h y (by
  rw[v8];exact qrk _ (qrK _ (kl.2 ⟨a,ha,hy⟩)))
 rw[vt,yV]at i1;rw[yV]at i2;rw[j6];by_cases h45:x.kind=4\/x.kind=5
 . rw[if_pos h45]at i1 i2;have q1:wC x.items<=4-p.depth:=qgk fun a ha=>by have:=i1 a ha;omega
   have q2:wC x.els<=4-p.depth:=qgk fun a ha=>by have:=i2 a ha;omega
   omega
 . have:=VL hs (fun e=>h45 (.inl e));rw[this.1,this.2 fun e=>h45 (.inr e)];simp[wC];omega
theorem JR {l:List It}(h:yf l=0):∀ x∈l,jG x<=5:=by
 intro x hx;unfold yf at h;split at h
 . cases h
 . have:=qhV x ⟨0,[]⟩ fun y hy=>qr.1 h y (kl.2 ⟨x,hx,hy⟩)
   simpa using this
structure CondOk (c:Option Ex)(n:Nat):Prop where
 slim:∀ q,c=some q->vG q
 wen:∀ q,c=some q->Wen q
 size:∀ q,c=some q->(pre q).length<=n
theorem ZH {c:Option Ex}{n:Nat}(h:CondOk c n){op:Int}{e:Ex}(he:vG e):vG (zm c op e):=by
 cases c with
 | none=>exact he
 | some q=>
  refine wO (by simp) fun x hx=>?_
  simp only[qra,qru,or_false]at hx;rcases hx with rfl|rfl
  . exact h.slim _ rfl
  . exact he
theorem Vr {c:Option Ex}{n:Nat}(h:CondOk c n){op:Int}{e:Ex}(he:Wen e):Wen (zm c op e):=by
 cases c with
 | none=>exact he
 | some q=>
  refine qbV (by simp) (by simp) fun x hx=>?_
  simp only[qra,qru,or_false]at hx;rcases hx with rfl|rfl
  . exact h.wen _ rfl
  . exact he
theorem VJ {c:Option Ex}{n:Nat}(h:CondOk c n){op:Int}{e:Ex}:(pre (zm c op e)).length<=n+1+(pre e).length:=by
 cases c with
 | none=>simp only[zm];omega
 | some q=>
  have:=h.size q rfl;simp only[zm,Js,jF,qaS,qq5,qqY,qrt];omega
theorem CondOk.none:CondOk none 0:=⟨by simp,by simp,by simp⟩
theorem CondOk.under {c:Option Ex}{n:Nat}(h:CondOk c n){op:Int}{e:Ex}(h1:vG e)(h2:Wen e){k:Nat}(h3:(pre e).length<=k):CondOk (some (zm c op e)) (n+1+k):=by
 refine⟨?_,?_,?_⟩
 . rintro q ⟨⟩;exact ZH h h1
 . rintro q ⟨⟩;exact Vr h h2
 . rintro q ⟨⟩;have:=VJ h (op:=op) (e:=e);omega
theorem qcg {e:Ex}(h:vG e):vG (YO e):=wO (by simp) fun x hx=>by simp at hx;subst hx;exact h
theorem qfM {e:Ex}(h:Wen e):Wen (YO e):=qbV (by simp) (by simp) fun x hx=>by simp at hx;subst hx;exact h
theorem qga {e:Ex}:(pre (YO e)).length=(pre e).length+1:=by simp[YO,Js]
theorem qd9:Wen zEx:=qbV (by simp) (by simp) (by simp)
structure OutOk (n:Nat)(y:It):Prop where
 slim:vG y.expr
 wen:Wen y.expr
 size:(pre y.expr).length<=n
 ws:y.ws.length<=1000
 items:y.items=[]
 els:y.els=[]
 before:y.before.length<=1000
 after:y.after.length<=1000
theorem OutOk.mono {n m:Nat}(h:n<=m){y:It}(hy:OutOk n y):OutOk m y:=⟨hy.slim,hy.wen,qrN hy.size h,hy.ws,hy.items,hy.els,hy.before,hy.after⟩
theorem Qn {F:yB}:∀ (h:Nat) (c:Option Ex) (n:Nat) (x:It),CondOk c n->Vp x->∀ y∈zC F h c x,OutOk (n+1002*(h+1)) y
 | 0,c,n,x,_,_,y,hy=>by simp[zC]at hy
 | h+1,c,n,x,hc,hx,y,hy=>by
  have hx1:=hx.self;simp only[zC]at hy;split at hy
  . simp only[qra,qru,or_false]at hy;subst hy;refine⟨ZI Y0 _ (ZH hc hx1.low.slim),JQ qd9 _ (Vr hc hx1.low.wen),?_,by simp[Zt,It.ws],rfl,rfl,by simp[Zt,It.before],by simp[Zt,It.after]⟩;have h1:=VK (s:=[]) (b:=zEx) rfl (zm c 21 x.expr);have h2:=VJ hc (op:=21) (e:=x.expr);have h3:=hx1.size;show (pre (qZ [] zEx (zm c 21 x.expr))).length<=_;omega
  split at hy
  . rcases qre.1 hy with hy|hy
    . obtain⟨a,ha,hya⟩:=qrp.1 hy;have:=Qn h _ _ a (hc.under (op:=19) hx1.low.slim hx1.low.wen hx1.size) (hx.item ha) y hya;exact this.mono (by omega)
    . obtain⟨a,ha,hya⟩:=qrp.1 hy;have:=Qn h _ _ a (hc.under (op:=19) (e:=YO x.expr) (k:=1001) (qcg hx1.low.slim) (qfM hx1.low.wen) (by rw[qga];have:=hx1.size;omega)) (hx.els ha) y hya;exact this.mono (by omega)
  split at hy
  . obtain⟨k,_,hyk⟩:=qrp.1 hy;obtain⟨a,ha,hya⟩:=qrp.1 hyk;obtain⟨z,hz,rfl⟩:=qq3.1 ha;exact (Qn h c n _ hc ((hx.item hz).subst x.index k) y hya).mono (by omega)
  split at hy
  . simp only[qra,qru,or_false]at hy;subst hy;refine⟨Y0,qd9,by simp[It.expr,zEx,Js];omega,hx1.low.ws,rfl,rfl,by simp[It.before],by simp[It.after]⟩
  split at hy
  . simp only[qra,qru,or_false]at hy;subst hy;refine⟨Y0,qd9,by simp[It.expr,zEx,Js];omega,by simp[It.ws],rfl,rfl,hx1.low.before,hx1.low.after⟩
  . cases hy
end
theorem wM (s:Str)(b:Ex)(hb:vG b)(l:List It)(hl:l.length<=1000)(h:∀ x∈l,Low1 x/\PZ 252 [sI x.items,.str s,.agg (qz b)] (.sl 12 ((x.items.map (qN s b)).map qK) .none)/\PZ 252 [sI x.els,.str s,.agg (qz b)] (.sl 12 ((x.els.map (qN s b)).map qK) .none)) :
 PZ 252 [sI l,.str s,.agg (qz b)] (.sl 12 ((l.map (qN s b)).map qK) .none):=by
 refine Pure.k qg Tryz.func252 rfl (by kernel_rfl) ?_;simp only[qa b]at h ⊢;simp[-getElem?_pos];refine qv.list l (fun d ev O=>ev 1=.str s/\ev 5=.ptr 0 0/\ev 7=ye 12 qK 0 (d.map (qN s b))/\ev 10=sI l/\ev 11=I_ l.length/\ev 12=I_ d.length/\∃ t,O=⟨.cells [I_ b.op,I_ b.n,.str b.name,sE b.args]::t,zG [] (d.map (qN s b))⟩) (by simp) ?_ ?_
 . rintro d v r ev O hd hv hlt ⟨h1,h5,h7,h10,h11,h12,⟨t,rfl⟩⟩;have hv':=(qqV.1 hv).2;obtain⟨lo,p1,p2⟩:=h v (qqW hv);have hx:=qfS s b hb v.expr lo.slim;have happ:∀ H,qt (Dof Zp) ⟨H,zG [] (d.map (qN s b))⟩ 24 (ye 12 qK 0 (d.map (qN s b))) (.sl 12 [qK (qN s b v)] .tight)=some (ye 12 qK 0 (d.map (qN s b)++[qN s b v]),⟨H,zG [] (d.map (qN s b)++[qN s b v])⟩):=fun H=>
    zq (sz:=12) (T:=[]) (m:=[qN s b v]) D24 rfl D68 rfl (by omega) rfl (by decide) (by simp;omega) 12 (.inl rfl)
   have hsi:=yg s b v;have e1:(qN s b v).kind=v.kind:=(by rw[hsi];rfl);have e2:(qN s b v).expr=qZ s b v.expr:=(by rw[hsi];rfl);have e3:(qN s b v).name=v.name:=(by rw[hsi];rfl);have e4:(qN s b v).index=v.index:=(by rw[hsi];rfl);have e5:(qN s b v).ws=v.ws:=(by rw[hsi];rfl);have e6:(qN s b v).items=v.items.map (qN s b):=(by rw[hsi];rfl);have e7:(qN s b v).els=v.els.map (qN s b):=(by rw[hsi];rfl);have e8:(qN s b v).before=v.before:=(by rw[hsi];rfl);have e9:(qN s b v).after=v.after:=(by rw[hsi];rfl);simp only[ql (qN s b v),e1,e2,e3,e4,e5,e6,e7,e8,e9,qa,qrd,qrh,qr2]at happ;simp only[qa v.expr,qa b,qa (qZ s b v.expr)]at hx;rw[qrf];simp only[qqZ,qq9];generalize d.map (qN s b)=D at *;generalize qN s b v=V at *;simp[-getElem?_pos,h1,h5,h10,h11,h12,hlt,hv,ql v,qa v.expr];refine qd.call hx (by simp) ?_;simp[-getElem?_pos,h1,h5];refine qd.call p1 (by simp) ?_;simp[-getElem?_pos,h1,h5];refine qd.call p2 (by simp) ?_;simp[-getElem?_pos,happ,h1,h5,h7,h10,h11,h12];exact wr (by omega) (by omega)
 . rintro ev O ⟨h1,h5,h7,h10,h11,h12,⟨t,rfl⟩⟩;have q:=Qh (sz:=12) (en:=qK) (s:=l.map (qN s b));simp[-getElem?_pos,h7,h11,h12];simpa using q
theorem Kv (s:Str)(b:Ex)(hb:vG b):∀ x,W9 x->PZ 252 [sI x.items,.str s,.agg (qz b)] (.sl 12 ((x.items.map (qN s b)).map qK) .none)/\PZ 252 [sI x.els,.str s,.agg (qz b)] (.sl 12 ((x.els.map (qN s b)).map qK) .none) :=
 It.ind fun x h1 h2 hl=>⟨wM s b hb x.items hl.self.items fun y hy=>⟨(hl.item hy).self,h1 y hy (hl.item hy)⟩,wM s b hb x.els hl.self.els fun y hy=>⟨(hl.els hy).self,h2 y hy (hl.els hy)⟩⟩
theorem Vh (s:Str)(b:Ex)(hb:vG b)(l:List It)(hl:l.length<=1000)(h:∀ x∈l,W9 x):PZ 252 [sI l,.str s,.agg (qz b)] (.sl 12 ((l.map (qN s b)).map qK) .none) :=
 wM s b hb l hl fun x hx=>⟨(h x hx).self,Kv s b hb x (h x hx)⟩
def vY (H:List Blk)(cp:AV):Option Ex->Prop
 | none=>cp=.nilp
 | some q=>∃ b,cp=.ptr b 0/\H[b]?=some (.cells (qz q))
theorem vY.keep {H H':List Blk}{cp:AV}{c:Option Ex}(h:vY H cp c)(hk:∀ (k:Nat) (cs:List AV),H[k]?=some (.cells cs)->cs.length=4->H'[k]?=some (.cells cs)):vY H' cp c:=by
 cases c with
 | none=>exact h
 | some q=>
  obtain⟨b,h1,h2⟩:=h;exact⟨b,h1,hk b _ h2 (zz q)⟩
theorem vY.app {H t:List Blk}{cp:AV}{c:Option Ex}(h:vY H cp c):vY (H++t) cp c:=h.keep fun k cs hk _=>qb hk t
def qgc:List (Nat×Sch×List Nat):=[(3,.step 0 [7,6] (.step 1 [7,6,5,3,2] (.step 2 [7,6,5,3] (.step 3 [7,6,5] (.step 4 [7,6,5] (.step 5 [7,6] (.step 6 [7] (.step 7 [] (.done)))))))),[])]
theorem qaC {H:List Blk}{cp:AV}{c:Option Ex}(hc:vY H cp c)(op:Int)(e:Ex)(T:List (Option Nat)) :
 qq Zp GG 251 [cp,I_ op,.agg (qz e)] ⟨H,T⟩ (fun r O'=>r=.agg (qz (zm c op e))/\∃ t,O'=⟨H++t,T⟩):=by
 refine qq.up ?_
 cases c with
 | none=>
  simp only[vY]at hc;subst hc;refine qq.kO ⟨false,qgc,[],[]⟩ qg Tryz.func251 rfl (by kernel_rfl) ?_;simp only[qa e];simp[-getElem?_pos];show zt _ (qz e);rw[qa e];exact zt.refl _
 | some q=>
  obtain⟨b,rfl,hb⟩:=hc;refine qq.kO ⟨false,qgc,[],[]⟩ qg Tryz.func251 rfl (by kernel_rfl) ?_;simp only[qa]at hb;simp only[qa e];simp[-getElem?_pos];rw[zJ rfl];simp[-getElem?_pos,zR,ZF,qb hb];simp[zm,qa,zt,Leq]
section
attribute [local simp high] zO Z0
attribute [local simp] z9 z8 zP jq zS yy yY Kr
structure XAt (H:List Blk)(b ob mb:Nat)(F:yB)(L:List It):Prop where
 cell:∃ v,H[b]?=some (.cells [.map mb,v,.bool (decide (400<L.length))])/\zi ob 12 qK H v (L.take 400)
 map:qar H mb F
theorem qje (L:List It):L.take 400=[]↔L=[]:=by cases L<;>simp
structure Grow (F:yB)(b ob mb:Nat)(L M:List It)(O O':St)(ob':Nat):Prop where
 now:XAt O'.H b ob' mb F (L++M)
 who:L++M=[]\/(ob'=ob/\L≠[])\/O.H.length<=ob'
 len:O.H.length<=O'.H.length
 keep:∀ (k:Nat) (x:Blk),O.H[k]?=some x->k≠b->(L=[]\/k≠ob)->O'.H[k]?=some x
 tok:O'.T=O.T
section
variable {F:yB}{b ob ob' ob'' mb:Nat}{L M N:List It}{O O' O'':St}{H t:List Blk}{T:List (Option Nat)}
theorem XAt.lt (h:XAt H b ob mb F L):b<H.length/\(L≠[]->ob<H.length):=by
 obtain⟨⟨v,h1,h2⟩,h3⟩:=h;refine⟨(qqV.1 h1).1,fun hL=>h2.lt fun e=>hL ((qje L).1 e)⟩
theorem XAt.row (h:XAt H b ob mb F L)(hL:L≠[]):∃ c,H[ob]?=some (.cells c)/\12<=c.length:=by
 obtain⟨⟨v,h1,h2⟩,h3⟩:=h;have hne:L.take 400≠[]:=fun e=>hL ((qje L).1 e)
 refine⟨_,(h2.at hne).2,?_⟩;rw[Go.Abs.flat_len yy];have:0<(L.take 400).length:=qrH.2 hne;omega
theorem XAt.ne (h:XAt H b ob mb F L)(hL:L≠[]):ob≠b:=by
 obtain⟨c,hc,hlen⟩:=h.row hL;obtain⟨⟨v,h1,h2⟩,h3⟩:=h;rintro rfl;rw[hc]at h1;cases h1;simp at hlen
theorem XAt.app (h:XAt H b ob mb F L):XAt (H++t) b ob mb F L:=by
 obtain⟨⟨v,h1,h2⟩,h3⟩:=h;exact⟨⟨v,qb h1 _,h2.keep fun x _ hx=>qb hx _⟩,h3.app⟩
theorem XAt.full (h:XAt H b ob mb F L)(h4:400<L.length)(N:List It):XAt H b ob mb F (L++N):=by
 obtain⟨⟨v,h1,h2⟩,h3⟩:=h;have e1:decide (400<(L++N).length)=decide (400<L.length):=by rw[qqY,decide_eq_true (by omega),decide_eq_true h4]
 have e2:(L++N).take 400=L.take 400:=qsb (by omega);exact⟨⟨v,by rw[e1];exact h1,by rw[e2];exact h2⟩,h3⟩
theorem Grow.push (h:XAt H b ob mb F L):Grow F b ob mb L [] ⟨H,T⟩ ⟨H++t,T⟩ ob :=
 ⟨by rw[qrl];exact h.app,by
  by_cases hL:L=[]
  . exact .inl (by simp[hL])
  . exact .inr (.inl ⟨rfl,hL⟩),by simp,fun k x hk _ _=>qb hk t,rfl⟩
theorem Grow.trans (h:Grow F b ob mb L M O O' ob')(h':Grow F b ob' mb (L++M) N O' O'' ob''):Grow F b ob mb L (M++N) O O'' ob'':=by
 refine⟨by rw[<- qri];exact h'.now,?_,qrN h.len h'.len,fun k x hk hb hL=>?_,h'.tok.trans h.tok⟩
 . rcases h'.who with e|⟨e1,e2⟩|e
   . left;rw[<- qri];exact e
   . rcases h.who with e3|⟨e3,e4⟩|e3
     . exact absurd e3 e2
     . exact .inr (.inl ⟨e1.trans e3,e4⟩)
     . exact .inr (.inr (by omega))
   . have:=h.len;exact .inr (.inr (by omega))
 . have hlt:=(qqV.1 hk).1;refine h'.keep k x (h.keep k x hk hb hL) hb ?_;rcases h.who with e|⟨e1,e2⟩|e
   . exact .inl e
   . subst e1;exact .inr (hL.resolve_left e2)
   . exact .inr (by omega)
theorem Grow.cond {cp:AV}{c:Option Ex}(h:Grow F b ob mb L M O O' ob')(h0:XAt O.H b ob mb F L)(hc:vY O.H cp c):vY O'.H cp c:=by
 refine hc.keep fun k cs hk h4=>h.keep k _ hk ?_ ?_
 . rintro rfl;obtain⟨⟨v,h1,h2⟩,h3⟩:=h0;rw[hk]at h1;cases h1;simp at h4
 . by_cases hL:L=[]
   . exact .inl hL
   . right;rintro rfl;obtain⟨c,h1,h2⟩:=h0.row hL;rw[hk]at h1;cases h1;omega
theorem Grow.mine (h:Grow F b ob mb L M O O' ob')(h0:XAt H b ob mb F L){k:Nat}{x:Blk}(hk:O.H[k]?=some x)(hge:H.length<=k):O'.H[k]?=some x:=by
 obtain⟨l1,l2⟩:=h0.lt;refine h.keep k x hk (by omega) ?_;by_cases hL:L=[]
 . exact .inl hL
 . have:=l2 hL;exact .inr (by omega)
theorem Grow.full (h:Grow F b ob mb L M O O' ob')(h4:400<(L++M).length)(N:List It):Grow F b ob mb L (M++N) O O' ob' :=
 ⟨by rw[<- qri];exact h.now.full h4 N,by
  rcases h.who with e|e|e
  . rw[e]at h4;simp at h4
  . exact .inr (.inl e)
  . exact .inr (.inr e),h.len,h.keep,h.tok⟩
end
def zItC:List AV:=[I_ 0,I_ 0,I_ 0,.str [],.sl 0 [] .nil,.str [],.str [],.sl 0 [] .nil,.sl 0 [] .nil,.sl 0 [] .nil,.sl 0 [] .nil,.sl 0 [] .nil]
def qmD:List (Nat×Sch×List Nat):=[(3,.step 0 [12,11,10,9,8,7,5,3,2,1] (.step 1 [12,11,10,9,8,7,5,3,2] (.step 2 [12,11,10,9,8,7,5,3] (.step 3 [12,11,10,9,8,7,5] (.step 4 [12,11,10,9,8,7] (.step 5 [12,11,10,9,8,7] (.step 6 [12,11,10,9,8,7] (.step 7 [12,11,10,9,8] (.step 8 [9] (.step 10 [12,11] (.step 11 [12] (.fork (.cons 9 (.step 12 [] (.done)) (.cons 12 (.step 9 [] (.done)) (.nil)))))))))))))),[])]
theorem qlF {F:yB}{b ob mb:Nat}{L:List It}(x:It)(H:List Blk)(T:List (Option Nat))(h:XAt H b ob mb F L) :
 qq Zp GG 249 [.ptr b 0,.agg (qK x)] ⟨H,T⟩ (fun _ O'=>∃ ob',Grow F b ob mb L [x] ⟨H,T⟩ O' ob'):=by
 refine qq.kO ⟨true,qmD,[],[]⟩ qg Tryz.func249 rfl (by kernel_rfl) ?_;have h0:=h;obtain⟨⟨v,hb,ho⟩,hm⟩:=h;have hlt:=(qqV.1 hb).1;by_cases h4:400<=L.length
 . have hl4:(L.take 400).length=400:=(by simp;omega);obtain⟨rfl,hrow⟩:=ho.at (by intro e;rw[e]at hl4;simp at hl4);simp[qb hb,hl4,zV hb];have e1:(L++[x]).take 400=L.take 400:=qsb h4;have hne:L≠[]:=(by rintro rfl;simp at h4);have hob:ob≠b:=h0.ne hne;refine⟨ob,⟨⟨⟨.ms ob 0 400 12,?_,?_⟩,?_⟩,.inr (.inl ⟨rfl,hne⟩),by simp,fun k y hk hkb _=>?_,rfl⟩⟩
   . rw[kL hb];have:400<L.length+1:=by omega
     simp[this]
   . rw[e1];have hk:=ho.keep (H':=H.set b (.cells [.map mb,.ms ob 0 400 12,.bool true])++[.cells (qK x)]) fun y _ hy=>jh hy hob
     rw[hl4]at hk;exact hk
   . obtain⟨es,clk,h1,h2⟩:=hm;refine⟨es,clk,jh h1 ?_,h2⟩;rintro rfl;rw[hb]at h1;cases h1
   . exact jh hk hkb
 . have hL:L.take 400=L:=qrb (by omega);rw[hL]at ho;obtain⟨H',c,ha,hc,hcl,hput,hkeep,hlen⟩:=(ho.keep (H':=H++[.cells (qK x)]) fun y _ hy=>qb hy _).put (T:=T) (z:=zItC) (tok:=.tight) D24 rfl D68 rfl (by omega) rfl (by decide) yy rfl (by omega) x;have hbv:b≠ob\/L=[]:=by
    by_cases e:L=[]
    . exact .inr e
    . exact .inl (Ne.symm (h0.ne e))
   have hb':H'[b]?=some (.cells [.map mb,v,.bool (decide (400<L.length))]):=hkeep _ _ (qb hb _) (by rcases hbv with e | e;exact .inr e;exact .inl e);have hx':H'[H.length]?=some (.cells (qK x)):=hkeep _ _ (by simp) (by
    by_cases e:L=[]
    . exact .inl e
    . have:=ho.lt e;exact .inr (by omega))
   have hd4:decide (400<L.length)=false:=(by simp;omega);rw[hd4]at hb hb';have hlenL:¬ (400:Int)<=L.length:=(by omega);have hvl:∀ H1:List Blk,kw (Dof Zp) ⟨H1,T⟩ 24 v=some (I_ L.length):=fun H1=>by
    rcases ho with ⟨rfl,rfl⟩|⟨_,rfl,_⟩<;>simp[kw]
   have hva:=ho.acells;have hvt:=ho.atom;have hcb:H.length+1≠b:=(by omega);simp only[qqY,qq5,qrt,qsh]at ha hc;simp only[zItC]at ha;have hle:L.length*12+12<=c.length:=(by omega);have hvf:(L=[]/\v=.sl 0 [] .nil)\/(L≠[]/\v=.ms ob 0 L.length 12):=by
    rcases ho with h|⟨h1,h2,_⟩
    . exact .inl h
    . exact .inr ⟨h1,h2⟩
   have hl1:H'.length=H.length+1+1:=(by simpa using hlen);have hbs:∀ y,(H'.set (H.length+1) y)[b]?=some (.cells [.map mb,v,.bool false]):=fun y=>by rw[qqX hcb];exact hb'
   have hcs:∀ y,(H'.set b y)[H.length+1]?=some (.cells c):=fun y=>by rw[qqX (Ne.symm hcb)];exact hc
   have hmine:∃ ob',Grow F b ob mb L [x] ⟨H,T⟩ ⟨(H'.set (H.length+1) (.cells ((L++[x]).flatMap qK))).set b (.cells [.map mb,.ms (H.length+1) 0 (L.length+1) 12,.bool false]),T⟩ ob':=by
    have hk4:∀ (k:Nat) (y:Blk),H[k]?=some y->k≠b->(L=[]\/k≠ob)->((H'.set (H.length+1) (.cells ((L++[x]).flatMap qK))).set b (.cells [.map mb,.ms (H.length+1) 0 (L.length+1) 12,.bool false]))[k]?=some y:=by
     intro k y hk hkb hkL;have hlt:=(qqV.1 hk).1;rw[qqX (Ne.symm hkb),qqX (by omega)];exact hkeep _ _ (qb hk _) hkL
    refine⟨H.length+1,⟨⟨⟨.ms (H.length+1) 0 (L.length+1) 12,?_,?_⟩,?_⟩,.inr (.inr (by simp)),by simp;omega,hk4,rfl⟩⟩
    . have h4:¬ 400<L.length+1:=(by omega);rw[qq4 (by simp;omega)];simp[h4]
    . rw[qrb (by simp;omega)];refine .inr ⟨by simp,by simp,?_⟩;show ((H'.set (H.length+1) _).set b _)[H.length+1]?=_;rw[qqX (Ne.symm hcb),qq4 (by omega)]
    . obtain⟨es,clk,h1,h2⟩:=hm;refine⟨es,clk,hk4 _ _ h1 ?_ ?_,h2⟩
      . rintro rfl;rw[hb]at h1;cases h1
      . by_cases e:L=[]
        . exact .inl e
        . right;rintro rfl;obtain⟨c',h3,_⟩:=h0.row e;rw[h3]at h1;cases h1
   rcases hvf with ⟨rfl,rfl⟩|⟨hne,rfl⟩
   . simp[qb hb];rw[zJ rfl];simp only[qrt]at *;simp[zR,qb hb,ha,hb',hc,hle,hput,qqX hcb,hcs];simp only[qrh,qrm,qs2,qrl,qsh]at hmine;exact⟨hmine,by rw[qs6 _ _ (Ne.symm hcb)];exact hmine⟩
   . have hi1:(L.length:Int)<(L.length:Int)+1:=(by omega);have hi2:(L.length:Int)<((L.length+1:Nat):Int):=(by omega);simp[qb hb,hlenL];rw[zJ rfl];simp[zR,qb hb,ha,hb',hc,hle,hput,qqX hcb,hcs,hi1];exact⟨by simpa using hmine,by rw[qs6 _ _ (Ne.symm hcb)];simpa using hmine⟩
end
section
attribute [local simp] acells fin zh ze pl1 plain pl2 AV.atom
theorem VT {α:Type}{nm:α->Str}{l:List α}(h:(l.map nm).Nodup):Z3 nm l=false:=by
 refine qaO fun i k x y hx hy hk e=>?_
 rw[List.Nodup,qtD]at h;obtain⟨hi,hx'⟩:=qqV.1 hx;obtain⟨hk',hy'⟩:=qqV.1 hy;refine h k i (by simpa using hk') (by simpa using hi) hk ?_;simp[hx',hy',e]
theorem qqG {c:Cls}(h:ClsOk c):ZX c=0:=by
 unfold ZX;rw[if_neg,if_neg,if_neg,if_neg,if_neg]
 . simp[VT h.fnd,VT h.bnd]
 . rw[qq2];rintro⟨b,hb,h'⟩;rw[h.blocks b hb]at h';cases h'
 . rw[qrF];exact qr.2 h.fields
 . have:=h.nf;have:=h.nb;omega
 . rintro (e|⟨e1,e2⟩)
   . rw[h.name]at e;cases e
   . rcases h.parent with p|p
     . exact e1 p
     . rw[p]at e2;cases e2
theorem qhI {l:List Blc}{b:Blc}(h:(l.map Blc.name).Nodup):((JO l b).map Blc.name).Nodup:=by
 unfold JO;have hf:=vw (p:=fun y:Blc=>y.name==b.name) (l:=l) (i:=0) (by omega);split
 . rename_i h0;have hr:=yn (p:=fun y:Blc=>y.name==b.name) (l:=l) (i:=0) (by omega) h0;have hat:∀ (m:List Blc) (i:Int),0<=qF (fun y:Blc=>y.name==b.name) m i->0<=i->∃ y,m[(qF (fun y:Blc=>y.name==b.name) m i-i).toNat]?=some y/\y.name=b.name:=by
    intro m
    induction m with
    | nil=>intro i h;simp[qF]at h
    | cons a r ih=>
     intro i h hi;simp only[qF]at h ⊢;by_cases e:(a.name==b.name)=true
     . rw[if_pos e];exact⟨a,by simp,by simpa using e⟩
     . rw[if_neg e]at h ⊢;obtain⟨y,hy,hn⟩:=ih (i+1) h (by omega);have:=yn (p:=fun y:Blc=>y.name==b.name) (l:=r) (i:=i+1) (by omega) h;refine⟨y,?_,hn⟩;have e2:(qF (fun y:Blc=>y.name==b.name) r (i+1)-i).toNat=(qF (fun y:Blc=>y.name==b.name) r (i+1)-(i+1)).toNat+1:=(by omega);rw[e2,qsR];exact hy
   obtain⟨y,hy,hn⟩:=hat l 0 h0 (by omega);rw[Int.sub_zero]at hy;generalize (qF (fun y:Blc=>y.name==b.name) l 0).toNat=k at hy;have e:(l.set k b).map Blc.name=l.map Blc.name:=by
    rw[qtm,<- hn];obtain⟨hk,hky⟩:=qqV.1 hy;apply qr1;intro i;rw[qr8];split
    . rename_i hi;subst hi;simp[hk,hky]
    . rfl
   rw[e];exact h
 . rename_i h0;have hn:¬ l.any (fun y=>y.name==b.name)=true:=fun e=>h0 (hf.2 e)
   rw[qrf,qsc];refine⟨h,by simp,?_⟩;rintro x hx y hy rfl;simp only[qqZ,qq9,qra,qru,or_false]at hy;obtain⟨z,hz,hzn⟩:=qq3.1 hx;exact hn (qq2.2 ⟨z,hz,by rw[hzn,hy];simp⟩)
theorem Ws:∀ {m:List Blc} {l:List Blc},(l.map Blc.name).Nodup->((m.foldl JO l).map Blc.name).Nodup
 | [],l,h=>h
 | b::r,l,h=>Ws (m:=r) (qhI h)
theorem Wv:∀ {l:List Cls},(∀ c∈l,(c.fields.map Fld.name).Nodup)->(q7 l).2=false->((q7 l).1.fields.map Fld.name).Nodup
 | [],_,_=>by simp[q7,Z7]
 | c::r,h,hc=>by
  have e:q7 (c::r)=qab c (q7 r):=rfl;rw[e]at hc ⊢;simp only[qab,qsD]at hc;have ih:=Wv (l:=r) (fun x hx=>h x (by simp[hx])) hc.1;simp only[qab,qrf];rw[qsc];refine⟨ih,h c (by simp),?_⟩;rintro x hx y hy rfl;obtain⟨f,hf,hfn⟩:=qq3.1 hx;obtain⟨g,hg,hgn⟩:=qq3.1 hy;have:jW (q7 r).1.fields c.fields=true:=qq2.2 ⟨g,hg,qq2.2 ⟨f,hf,by rw[hfn,hgn];simp⟩⟩;rw[this]at hc;cases hc.2
theorem YD:∀ (l:List Cls),((q7 l).1.blocks.map Blc.name).Nodup
 | []=>by simp[q7,Z7]
 | c::r=>by
  have e:q7 (c::r)=qab c (q7 r):=rfl;rw[e];exact Ws (YD r)
theorem qdZ {src:List Cls}:∀ {f:Nat} {c:Cls} {l:List Cls},yE src f c=some l->∃ r,l=c::r
 | 0,c,l,h=>by
  simp only[yE]at h;split at h
  . cases h;exact⟨[],rfl⟩
  . cases h
 | f+1,c,l,h=>by
  simp only[yE]at h;split at h
  . cases h;exact⟨[],rfl⟩
  . obtain⟨m,_,rfl⟩:=qq0.1 h;exact⟨m,rfl⟩
structure SrcOk (src:List Cls):Prop where
 cls:∀ c∈src,ClsOk c
 names:∀ c∈src,c.parent=[]\/(yI src c.parent).isSome=true
 line:∀ c∈src,(yE src src.length c).isSome=true
 clash:∀ c∈src,(q7 (j4 src c)).2=false
 small:∀ c∈src,Zz (q7 (j4 src c)).1=false
theorem WS {src:List Cls}(h:kq src=0):SrcOk src:=by
 unfold kq at h;split at h
 . cases h
 split at h
 . rename_i hn;exact absurd h hn
 rename_i h2;split at h
 . rename_i hn;exact absurd h hn
 rename_i h3;split at h
 . cases h
 rename_i h4;split at h
 . cases h
 rename_i h5;split at h
 . cases h
 rename_i h6;have h3:QO src=0:=qrF.1 h3;unfold QO at h3;split at h3
 . cases h3
 rename_i h7;split at h3
 . cases h3
 rename_i h8;refine⟨fun c hc=>WQ (qr.1 (qrF.1 h2) c hc),fun c hc=>?_,fun c hc=>?_,fun c hc=>?_,fun c hc=>?_⟩
 . by_cases hp:c.parent=[]
   . exact .inl hp
   . right
     cases e:yI src c.parent with
     | some x=>rfl
     | none=>exact absurd (qq2.2 ⟨c,hc,by simp[hp,e]⟩) h8
 . cases e:yE src src.length c with
   | some x=>rfl
   | none=>exact absurd (qq2.2 ⟨c,hc,by simp[e]⟩) h4
 . cases e:(q7 (j4 src c)).2 with
   | false=>rfl
   | true=>exact absurd (qq2.2 ⟨c,hc,e⟩) h5
 . cases e:Zz (q7 (j4 src c)).1 with
   | false=>rfl
   | true=>exact absurd (qq2.2 ⟨c,hc,e⟩) h6
theorem W7 {src:List Cls}(hs:∀ c∈src,c.parent=[]\/(yI src c.parent).isSome=true):∀ {f:Nat} {c:Cls} {l:List Cls},c∈src->yE src f c=some l->∀ x∈l,x∈src
 | 0,c,l,hc,h,x,hx=>by
  simp only[yE]at h;split at h
  . cases h;simp at hx;subst hx;exact hc
  . cases h
 | f+1,c,l,hc,h,x,hx=>by
  simp only[yE]at h;split at h
  . cases h;simp at hx;subst hx;exact hc
  . rename_i hp;obtain⟨m,hm,rfl⟩:=qq0.1 h;rcases qra.1 hx with rfl|hx
    . exact hc
    . have:=(hs c hc).resolve_left hp;refine W7 hs ?_ hm x hx;unfold yo
      cases e:yI src c.parent with
      | none=>rw[e]at this;cases this
      | some y=>exact qrW e
theorem qbr {src:List Cls}{name:Str}(h:jR src name=0):ClsOk (qy src name):=by
 have hne:qy src name=(q7 (wc src name)).1:=by unfold qy;rw[if_neg (by simp[h])]
 have hl:wc src name=j4 src (yo src name):=by unfold wc;rw[if_neg (by simp[h])]
 unfold jR at h;split at h
 . rename_i hn;exact absurd h hn
 rename_i hc;split at h
 . cases h
 rename_i hf;have hs:=WS (qrF.1 hc);have hfs:∃ c,yI src name=some c:=by
  cases e:yI src name with
  | none=>rw[e]at hf;simp at hf
  | some c=>exact⟨c,rfl⟩
 obtain⟨c,hfc⟩:=hfs;have hcm:c∈src:=qrW hfc;have hd:yo src name=c:=by unfold yo;rw[hfc];rfl
 rw[hd]at hl;have hsm:=hs.line c hcm
 cases ha:yE src src.length c with
 | none=>rw[ha]at hsm;cases hsm
 | some l=>
  have hld:j4 src c=l:=by unfold j4;rw[ha];rfl
  have hin:=W7 hs.names hcm ha;obtain⟨r,rfl⟩:=qdZ ha;have hcl:=hs.clash c hcm;have hsl:=hs.small c hcm;rw[hld]at hl hcl hsl;rw[hne,hl];have e:q7 (c::r)=qab c (q7 r):=rfl;simp only[Zz,qsD,decide_eq_false_iff_not]at hsl;refine⟨?_,.inl (YC _),by omega,by omega,fun f hf=>?_,fun b hb=>?_,Wv (fun x hx=>(hs.cls x (hin x hx)).fnd) hcl,YD _⟩
  . rw[e];exact (hs.cls c hcm).name
  . obtain⟨d,hd,hfd⟩:=qdk hf;exact (hs.cls d (hin d hd)).fields f hfd
  . obtain⟨d,hd,hbd⟩:=qdl hb;exact (hs.cls d (hin d hd)).blocks b hbd
theorem qaz {c:Cls}(h:ClsOk c):qf c=c.fields.flatMap yG:=by unfold qf;rw[if_neg (by simp[qqG h])]
theorem wa {c:Cls}(h:ClsOk c){v:Var}:v∈qf c↔∃ f∈c.fields,(f.size=0/\v=⟨f.name,f.width,f.mode,f.init⟩)\/∃ i:Nat,(i:Int)<f.size/\v=⟨qH f.name i,f.width,f.mode,f.init⟩:=by
 rw[qaz h,qrp];constructor
 . rintro⟨f,hf,hv⟩;refine⟨f,hf,?_⟩;unfold yG at hv;rcases qre.1 hv with hv|hv
   . split at hv
     . rename_i h0;simp at hv;exact .inl ⟨h0,hv⟩
     . cases hv
   . obtain⟨i,hi,rfl⟩:=qq3.1 hv;have:=qrC.1 hi;exact .inr ⟨i,by omega,rfl⟩
 . rintro⟨f,hf,⟨h0,rfl⟩|⟨i,hi,rfl⟩⟩
   . exact⟨f,hf,by unfold yG;simp[h0]⟩
   . refine⟨f,hf,?_⟩;unfold yG;exact qre.2 (.inr (qq3.2 ⟨i,qrC.2 (by omega),rfl⟩))
theorem Vv {c:Cls}(h:ClsOk c):∀ v∈qf c,js v.name=true:=by
 intro v hv;obtain⟨f,hf,⟨h0,rfl⟩|⟨i,hi,rfl⟩⟩:=(wa h).1 hv
 . have:=(zk (h.fields f hf)).name;simp[js,this]
 . have hk:=zk (h.fields f hf);have:yb (qH f.name i)=some (f.name,i):=wH ⟨by have:=hk.s8;omega,hk.name,rfl⟩;simp[js,this]
theorem vR {c:Cls}(h:ClsOk c){f:Fld}(hf:f∈c.fields):qc c f.name=some f.size:=by
 unfold qc;have hnd:=h.fnd;generalize c.fields=l at hf hnd
 induction l with
 | nil=>cases hf
 | cons a r ih=>
  simp only[qqZ,qr4]at hnd;rcases qra.1 hf with rfl|hf
  . simp
  . have:¬ a.name=f.name:=fun e=>hnd.1 (by rw[e];exact qq3.2 ⟨f,hf,rfl⟩)
    have hb:(a.name==f.name)=false:=(by simpa using this);rw[qtn,hb];exact ih hf hnd.2
theorem kF {c:Cls}{a:Str}{n:Int}(h:qc c a=some n):∃ f∈c.fields,f.name=a/\f.size=n:=by
 unfold qc at h;obtain⟨f,hf,rfl⟩:=qq0.1 h;exact⟨f,qrW hf,by simpa using List.find?_some hf,rfl⟩
theorem qbk {l:List Var}{s:Str}:vZ l s=true↔∃ v∈l,v.name=s:=by
 unfold vZ;rw[qq2];simp
theorem JB {c:Cls}(h:ClsOk c){a:Str}(ha:qO a=true){i:Nat}(hi:i<8):vZ (qf c) (qH a i)=true↔∃ f∈c.fields,f.name=a/\(i:Int)<f.size:=by
 rw[qbk];constructor
 . rintro⟨v,hv,hn⟩;obtain⟨f,hf,⟨h0,rfl⟩|⟨j,hj,rfl⟩⟩:=(wa h).1 hv
   . have hk:=(zk (h.fields f hf)).name;simp only at hn;rw[hn,Jw]at hk;cases hk
   . have hk:=zk (h.fields f hf);obtain⟨e1,e2⟩:=QV (by have:=hk.s8;omega) hi hn;exact⟨f,hf,e1,by omega⟩
 . rintro⟨f,hf,rfl,hi⟩;exact⟨_,(wa h).2 ⟨f,hf,.inr ⟨i,hi,rfl⟩⟩,rfl⟩
theorem qkA {c:Cls}(h:ClsOk c){a:Str}(ha:qO a=true):vZ (qf c) a=true↔∃ f∈c.fields,f.name=a/\f.size=0:=by
 rw[qbk];constructor
 . rintro⟨v,hv,hn⟩;obtain⟨f,hf,⟨h0,rfl⟩|⟨j,hj,rfl⟩⟩:=(wa h).1 hv
   . exact⟨f,hf,hn,h0⟩
   . simp only at hn;rw[<- hn,Jw]at ha;cases ha
 . rintro⟨f,hf,rfl,h0⟩;exact⟨_,(wa h).2 ⟨f,hf,.inl ⟨h0,rfl⟩⟩,rfl⟩
theorem Jh {c:Cls}(h:ClsOk c){a:Str}(ha:qO a=true):(qc c a).getD 0=(qA (qf c) a:Int):=by
 cases hF:qc c a with
 | none=>
  have:qA (qf c) a=0:=qaI (by omega) (by omega) fun _=>by
   rw[qrG];intro e;obtain⟨f,hf,hn,_⟩:=(JB h ha (by omega)).1 e;have:=vR h hf;rw[hn,hF]at this;cases this
  rw[this];rfl
 | some n=>
  obtain⟨f,hf,rfl,rfl⟩:=kF hF;have hk:=zk (h.fields f hf);have hs0:=hk.s0;have hs8:=hk.s8;have:qA (qf c) f.name=f.size.toNat:=qaI (by omega) (fun j hj=>(JB h ha (by omega)).2 ⟨f,hf,rfl,by omega⟩) fun h8=>by
   rw[qrG];intro e;obtain⟨g,hg,hn,hlt⟩:=(JB h ha (by omega)).1 e;have h1:=vR h hg;have h2:=vR h hf;rw[hn,h2]at h1;have:=Option.some.inj h1;omega
  rw[this];show f.size=_;omega
end
section
def qlI (F:yB)(l:List Var):Prop:=∀ a,qO a=true->(F a).getD 0=(qA l a:Int)
theorem QN {e:Ex}(h:za e)(h3:e.op=3\/e.op=24):qO e.name=true:=by
 obtain⟨_,_,_,_,_,_,h,_⟩:=zy h.self;exact h h3
theorem ext2 {l:List Var}{e:Ex}(hn:za e)(hu:Ko l e=false):(zx l e).2=if e.op=1 then e.n else if e.op=3 then (match e.args with | a::_=>if 0<=(zx l a).2/\(qA l e.name:Int)<=(zx l a).2 then 0 else -1 | []=>-1) else -1:=by
 rw[yq];unfold qbw;by_cases c1:e.op=1
 . rw[if_pos c1,if_pos c1]
 rw[if_neg c1,if_neg c1];by_cases c24:e.op=24
 . rw[if_pos c24,if_neg (by omega)]
 rw[if_neg c24];by_cases c3:e.op=3
 . obtain⟨a,ha⟩:=YV hn c3;have hs:=jV (jU hu) (.inl c3);rw[if_neg (by simp[c3]),if_pos c3,ha];simp only[qqZ,qq9,We];by_cases c5:(qA l e.name:Int)<=(zx l a).2
   . rw[if_pos c5,if_pos ⟨by omega,c5⟩]
   . have e1:¬ (0<=(zx l a).2/\(qA l e.name:Int)<=(zx l a).2):=fun h=>c5 h.2
     rw[if_neg c5,if_neg e1];by_cases c6:0<=(zx l a).2
     . rw[if_pos c6]
     . rw[if_neg c6]
 . rw[if_pos c3,if_neg c3]
section
variable {F:yB}{b:Nat}{l:List Var}
theorem qfr (hag:qlI F l):∀ e,za e->Ko l e=false->∀ (H:List Blk) (T:List (Option Nat)),qar H b F ->
 qq Zp GG 255 [.map b,.agg (qz e)] ⟨H,T⟩ (fun r O'=>r=.tup [I_ (if 0<=(zx l e).2 then (zx l e).2 else 0),.bool (decide (0<=(zx l e).2))]/\∃ t,O'=⟨H++t,T⟩):=by
 refine Ex.ind fun e ih hn hu H T hm=>?_
 refine qq.k qg Tryz.func255 rfl (by kernel_rfl) ?_;have hm0:=hm;obtain⟨es,clk,hb,hkv⟩:=hm;have lk:=fun (H':List Blk) (T':List (Option Nat)) (b:Nat) (s:Str) (ok:Bool) (h:H'[b]?=some (.map es clk))=>vD hkv (T:=T') h s ok
 have hx:=ext2 hn hu;generalize (zx l e).2=q at hx ⊢;by_cases c1:e.op=1
 . rw[if_pos c1]at hx;obtain⟨_,_,h1,_⟩:=zy hn.self;have h0:=(h1 c1).1;simp only[qa e];simp[-getElem?_pos,c1,hx,h0]
 rw[if_neg c1]at hx;by_cases c3:e.op=3
 . obtain⟨a,ha⟩:=YV hn c3;rw[if_pos c3,ha]at hx;simp only at hx;have hag:=hag e.name (QN hn (.inl c3));have hi:=fun t=>ih a (by rw[ha];simp) (hn.arg (by rw[ha];simp)) (zj hu (by rw[ha];simp)) (H++t) T hm0.app
   simp only[qa a]at hi;simp only[qa e,ha];simp[-getElem?_pos,c3,qa a];refine qd.acall (hi _) ?_;rintro v O' ⟨rfl,t,rfl⟩;generalize (zx l a).2=z at hx;by_cases hz:0<=z
   . by_cases hs:(qA l e.name:Int)<=z
     . rw[if_pos ⟨hz,hs⟩]at hx;subst hx;simp[-getElem?_pos,hz,hs,lk,qb hb,hag]
     . rw[if_neg (fun h=>hs h.2)]at hx;subst hx;simp[-getElem?_pos,hz,hs,lk,qb hb,hag]
   . rw[if_neg (fun h=>hz h.1)]at hx;subst hx;simp[-getElem?_pos,hz]
 . rw[if_neg c3]at hx;subst hx;simp only[qa e];simp[-getElem?_pos,c1,c3]
theorem Kf:∀ {xs:List (Int×Int)} {s:Int},(∀ x∈xs,0<=x.1)->s<=401->Zm s xs=min 401 (s+YZ xs)
 | [],s,_,h=>by simp only[Zm,YZ];omega
 | m::r,s,hx,h=>by
  have h0:=hx m (by simp);have hr:∀ x∈r,0<=x.1:=fun x h=>hx x (by simp[h])
  have hn:=Kt hr;simp only[Zm,YZ];by_cases c1:401<s+m.1
  . rw[if_pos c1,Kf hr (by omega)];omega
  . rw[if_neg c1,Kf hr (by omega)];omega
theorem qpk (hag:qlI F l):∀ e,Wen e->za e->Ko l e=false->∀ (H:List Blk) (T:List (Option Nat)),qar H b F ->
 qq Zp GG 188 [.map b,.agg (qz e)] ⟨H,T⟩ (fun r O'=>r=I_ (zx l e).1/\∃ t,O'=⟨H++t,T⟩):=by
 refine Ex.ind fun e ih hwe hn hu H T hm=>?_
 refine qq.k qg Tryz.func188 rfl (by kernel_rfl) ?_;have hm0:=hm;obtain⟨es,clk,hb,hkv⟩:=hm;have lk:=fun (H':List Blk) (T':List (Option Nat)) (b:Nat) (s:Str) (ok:Bool) (h:H'[b]?=some (.map es clk))=>vD hkv (T:=T') h s ok
 have hfa:=hwe.fits;have h8:=jy l e.name;have hok:∀ a∈e.args,ExtOk l a:=fun a ha=>WE l a (hn.arg ha) (zj hu ha)
 have hx:=yq l e;unfold qbw at hx;by_cases c24:e.op=24
 . have hag:=hag e.name (QN hn (.inr c24));rw[if_neg (by omega),if_pos c24]at hx;rw[hx];have w1:IntKind.i64.wrap (2*(qA l e.name:Int))=2*qA l e.name:=wr (by omega) (by omega);have w2:IntKind.i64.wrap (2*(qA l e.name:Int)-1)=2*qA l e.name-1:=wr (by omega) (by omega);simp only[qa e];simp[-getElem?_pos,c24,lk,qb hb,hag,w1,w2]
 have hxs:∀ x∈e.args.map (zx l),1<=x.1/\x.1<=401:=by
  intro x hx;obtain⟨a,ha,rfl⟩:=qq3.1 hx;exact (hok a ha).nn
 simp only[qa e];simp[-getElem?_pos,c24];refine qv.listR e.args (fun d ev O=>ev 0=.map b/\ev 3=.ptr H.length 0/\ev 5=I_ (Zm 0 (d.map (zx l)))/\ev 20=sE e.args/\ev 21=I_ e.args.length/\ev 22=I_ d.length/\∃ t,O=⟨H++.cells (qz e)::t,T⟩) ?_ ?_ ?_
 . exact⟨by simp,by simp,by simp[Zm],by simp,by simp,by simp,[],by simp[qa e]⟩
 . rintro d a r ev O R hR hd hv hlt ⟨h0,h3,h5,h20,h21,h22,t,rfl⟩;have ham:=qqW hv;have hi:=fun t=>ih a ham (hwe.arg ham) (hn.arg ham) (zj hu ham) (H++t) T hm0.app
   have hdm:∀ x∈d.map (zx l),0<=x.1:=fun x hx=>by
    obtain⟨y,hy,rfl⟩:=qq3.1 hx;have:=(hok y (by rw[hd];simp[hy])).nn;omega
   have hcap:=Q1 (xs:=d.map (zx l)) (s:=0) (by omega) hdm;have hnn:=(hok a ham).nn;have ec:=WV (xs:=d.map (zx l)) (s:=0) (m:=zx l a);simp only[qa a]at hi;simp[-getElem?_pos,h0,h5,h20,h21,h22,hlt,hv,qa a];refine qd.acall (by simpa using hi _) ?_;rintro v O' ⟨rfl,t',rfl⟩;have em:(d++[a]).map (zx l)=d.map (zx l)++[zx l a]:=(by simp);rw[<- em]at ec;generalize Zm 0 (d.map (zx l))=C at *;generalize Zm 0 ((d++[a]).map (zx l))=C' at *;have w1:IntKind.i64.wrap (C+(zx l a).1)=C+(zx l a).1:=wr (by omega) (by omega);simp[-getElem?_pos,h22,w1,YP];refine hR _ _ ⟨h0,h3,by simp[ec],h20,h21,by simp;exact wr (by omega) (by omega),_,by simp;rfl⟩
 . rintro ev O ⟨h0,h3,h5,h20,h21,h22,t,rfl⟩;have hxs0:∀ x∈e.args.map (zx l),0<=x.1:=fun x hx=>by have:=hxs x hx;omega
   have hcap:=Q1 (xs:=e.args.map (zx l)) (s:=0) (by omega) hxs0;have k0:=Kf hxs0 (s:=0) (by omega);have k1:=Kf hxs0 (s:=1) (by omega);have hnn:=Kt hxs0;have hbH:(H++.cells (qz e)::t)[H.length]?=some (.cells [I_ e.op,I_ e.n,.str e.name,sE e.args]):=(by simp[qa e]);by_cases c3:e.op=3
   . obtain⟨a,ha⟩:=YV hn c3;have hagn:=hag e.name (QN hn (.inl c3));have ham:a∈e.args:=(by rw[ha];simp);have hc:=fun t=>qfr (b:=b) hag a (hn.arg ham) (zj hu ham) (H++t) T hm0.app
     have hoa:=hok a ham;simp only[qa a]at hc;rw[ha]at h5 h20 h21 h22 hbH;simp[-getElem?_pos,h0,h3,h21,h22,hbH,c3,qa a];refine qd.acall (by simpa using hc _) ?_;rintro v O' ⟨rfl,t',rfl⟩;rw[if_neg (by omega),if_neg c24,if_neg (by simp[c3]),ha]at hx;simp only[qqZ,qq9,We]at hx;by_cases hz:0<=(zx l a).2
     . have h1:(zx l e).1=1:=by
        rw[hx];split
        . rfl
        . rfl
       rw[h1];simp[-getElem?_pos,hz]
     . have hs:=jV (jU hu) (.inl c3);rw[if_neg (by omega),if_neg hz]at hx;rw[hx];have hnna:=hoa.nn;have hC:Zm 0 [zx l a]=(zx l a).1:=by
        simp only[Zm];rw[if_neg (by omega)];omega
       have hp:0<=(qA l e.name:Int)*((zx l a).1+4)/\(qA l e.name:Int)*((zx l a).1+4)<=8*405:=qkc (by omega) (by omega) (by omega) (by omega);have w1:IntKind.i64.wrap ((zx l a).1+4)=(zx l a).1+4:=wr (by omega) (by omega);have w2:IntKind.i64.wrap ((qA l e.name:Int)*((zx l a).1+4))=qA l e.name*((zx l a).1+4):=wr (by omega) (by omega);have w3:IntKind.i64.wrap ((qA l e.name:Int)*((zx l a).1+4)+1)=qA l e.name*((zx l a).1+4)+1:=wr (by omega) (by omega);have hb2:(H++.cells (qz e)::t)[b]?=some (.map es clk):=qb hb _;have hbH2:=hbH;simp only[qqZ,qq9,hC]at h5;simp[-getElem?_pos,hz,h0,h3,h5,lk,qb hb,hagn,w1,w2,w3,YP,qa e,ha,c3]
   . have hw:IntKind.i64.wrap (Zm 0 (e.args.map (zx l))+1)=Zm 0 (e.args.map (zx l))+1:=wr (by omega) (by omega);have h1:(zx l e).1=if 401<Zm 0 (e.args.map (zx l))+1 then 401 else Zm 0 (e.args.map (zx l))+1:=by
      rw[hx];by_cases c1:e.op=1
      . rw[if_pos c1];have hs:e.args=[]:=by
         obtain⟨_,_,_,_,ho,_⟩:=zy hn.self;have:=jQ ho (by omega);have h0:zN e.op=0:=(by rw[c1];decide);rw[h0]at this;exact qrQ.1 (by omega)
        rw[hs];simp[Zm]
      . rw[if_neg c1,if_neg c24,if_pos (by simpa using c3)];show Zm 1 _=_;rw[k1,k0];split<;>omega
     rw[h1];simp[-getElem?_pos,h0,h3,h5,h21,h22,hbH,c3,hw,YP]
end
end
end Go.Proofs.YtpgcmnabljandaaGreatDoor
end
