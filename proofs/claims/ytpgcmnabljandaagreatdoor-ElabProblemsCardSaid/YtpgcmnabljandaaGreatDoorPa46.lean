/- A part of the proof. -/
import Derived.Test.YtpgcmnabljandaaGreatDoorPa45
set_option maxHeartbeats 16000000
set_option linter.unusedVariables false
set_option linter.unusedSimpArgs false
set_option maxRecDepth 100000
set_option linter.defProp false
section
namespace Go.Proofs.YtpgcmnabljandaaGreatDoor
open Go Go.Abs
section
theorem qbj {l l':List Var}(h:l.map Var.name=l'.map Var.name)(s:Str):ka l s=ka l' s:=by
 have gen:∀ (l:List Var) (i:Int),qF (fun v:Var=>v.name==s) l i=qF (fun n:Str=>n==s) (l.map Var.name) i:=by
  intro l
  induction l with
  | nil=>intro i;rfl
  | cons a r ih=>intro i;simp only[qF,qqZ,ih]
 unfold ka;rw[gen,gen,h]
theorem qht (l:List Var)(s:Signal):(Q7 l s).map Var.name=l.map Var.name:=by
 unfold Q7;split
 . rename_i v hv;rw[qtm];apply qr1;intro k;rw[qr8];split
   . rename_i e;subst e;obtain⟨hl,hv'⟩:=qqV.1 hv;simp[hl,hv']
   . rfl
 . rfl
theorem qpm (l:List Var)(s:Signal)(k:Nat):(Q7 l s)[k]?.map (fun v=>(v.name,v.width,v.mode))=l[k]?.map fun v=>(v.name,v.width,v.mode):=by
 unfold Q7;split
 . rename_i v hv;rw[qr8];split
   . rename_i e;subst e;obtain⟨hl,hv'⟩:=qqV.1 hv;simp[hl,hv']
   . rfl
 . rfl
theorem qmj (l:List Var)(s:Signal):(Q7 l s).length=l.length:=by
 unfold Q7;split
 . simp
 . rfl
theorem Qj (d:List Signal):∀ l,(d.foldl Q7 l).map Var.name=l.map Var.name:=by
 induction d with
 | nil=>intro l;rfl
 | cons s r ih=>intro l;rw[qrP,ih,qht]
theorem qbp (d:List Signal):∀ l (k:Nat),(d.foldl Q7 l)[k]?.map (fun v=>(v.name,v.width,v.mode))=l[k]?.map fun v=>(v.name,v.width,v.mode):=by
 induction d with
 | nil=>intro l k;rfl
 | cons s r ih=>intro l k;rw[qrP,ih,qpm]
theorem vQ (d:List Signal):∀ l,(d.foldl Q7 l).length=l.length:=by
 induction d with
 | nil=>intro l;rfl
 | cons s r ih=>intro l;rw[qrP,ih,qmj]
theorem qpu (x s:Signal):PZ 109 [.agg (qD x),.rptr (qD s)] (.bool (x.name==s.name)):=by
 refine Pure.k qg Tryz.func109 rfl (by kernel_rfl) ?_;simp
theorem KB (x:Int):∀ (V:List Var) (k:Nat) (v:Var),V[k]?=some v->(V.flatMap qo).set (k*4+3) (I_ x)=(V.set k ⟨v.name,v.width,v.mode,x⟩).flatMap qo
 | [],k,v,h=>by simp at h
 | a::r,0,v,h=>by
  simp only[qsf,Option.some.injEq]at h;subst h;simp[qo]
 | a::r,k+1,v,h=>by
  have ih:=KB x r k v (by simpa using h);rw[qtw,qrm,qrm,<- ih,qse];simp only[qo,qrd,qrh];rw[show k*4+4+3=(k*4+3)+4 by omega];simp
theorem qc6:∀ (V:List Var) (k:Nat) (v:Var),V[k]?=some v->(V.flatMap qo).drop (k*4)=qo v++(V.drop (k+1)).flatMap qo
 | [],k,v,h=>by simp at h
 | a::r,0,v,h=>by
  simp only[qsf,Option.some.injEq]at h;subst h;simp
 | a::r,k+1,v,h=>by
  have ih:=qc6 r k v (by simpa using h);rw[qrm,qse];simp only[qo,qrd,qrh]at ih ⊢;simpa using ih
theorem qn4 {V:List Var}{k:Nat}{v:Var}(h:V[k]?=some v):(V.flatMap qo)[k*4+1]?=some (I_ v.width)/\(V.flatMap qo)[k*4+2]?=some (I_ v.mode):=by
 have:=qc6 V k v h;have e:∀ j,(V.flatMap qo)[k*4+j]?=((V.flatMap qo).drop (k*4))[j]? := fun j=>by rw[qrR]
 rw[e,e,this];simp[qo]
theorem jf {cs:List AV}{i:Nat}{x:AV}(h:cs[i]?=some x):(cs.drop i).take 1=[x]/\i+1<=cs.length:=by
 obtain⟨h1,h2⟩:=qqV.1 h;refine⟨?_,h1⟩;rw[qsx h1,h2];rfl
section
variable {T0:List (Option Nat)}{B vb m:Nat}{c:Cls}{V:List Var}
theorem BX.setv {D:List Dist}{E:List (Int×Int)}{td:Nat}{R:List Rec}{clk:Nat}{H:List Blk}{T:List (Option Nat)}(h:BX T0 B vb m c V ⟨H,T⟩ D E td R clk){V':List Var}(hl:V'.length=V.length)(hne:V≠[]) :
 BX T0 B vb m c V' ⟨H.set vb (.cells (V'.flatMap qo)),T⟩ D E td R clk/\vb≠B/\vb≠m:=by
 obtain⟨vv,dv,a1,a2,a3⟩:=h.cell;obtain⟨rfl,hr⟩:=a2.at hne;have hm:=h.map;simp only at a1 hm hr;have hvB:vb≠B:=by
  rintro rfl;rw[a1]at hr
  cases V with
  | nil=>exact hne rfl
  | cons v r=>
   simp only[Option.some.injEq,Blk.cells.injEq,qrm,qo,qrd,qrh,List.cons.injEq]at hr;have:=hr.2.1;cases this
 have hvm:vb≠m:=by
  rintro rfl;rw[hm]at hr;cases hr
 refine⟨⟨⟨.ms vb 0 V.length 4,dv,?_,?_,a3⟩,?_,h.after,h.pre⟩,hvB,hvm⟩
 . show (H.set vb _)[B]?=_;rw[qqX hvB];exact a1
 . refine .inr ⟨by intro e;rw[e]at hl;exact hne (qrQ.1 hl.symm),by rw[hl],?_⟩;show (H.set vb _)[vb]?=_;rw[qq4 (qqV.1 hr).1]
 . show (H.set vb _)[m]?=_;rw[qqX hvm];exact hm
def qpJ:List (Nat×Sch×List Nat):=[(11,.step 0 [10,9,8,4,3,2,1] (.step 1 [10,9,8,4,3,2] (.step 2 [10,9,8,4,3] (.step 3 [10,9,8,4] (.step 4 [10,9,8] (.step 5 [10,9,8] (.step 6 [10,9,8,7] (.step 7 [10,9,8] (.step 8 [10,9] (.step 9 [10] (.step 10 [] (.done))))))))))),[])]
theorem qmc (hl:V.length<=1000)(S:List Signal)(hS:Fits S)(hw:∀ v∈V,0<=v.width/\v.width<=8)(H:List Blk)(T:List (Option Nat)){D:List Dist}{E:List (Int×Int)}{td:Nat}{R:List Rec}{clk:Nat}(h:BX T0 B vb m c V ⟨H,T⟩ D E td R clk) :
 qq Zp GG 52 [.ptr B 0,sG S] ⟨H,T⟩ (fun r O'=>r=I_ (jO V S)/\O'.T=T/\KpL [vb] H O'.H/\(jO V S=0->BX T0 B vb m c (q6 V S) O' D E td R clk)):=by
 refine qq.kO ⟨false,qpJ,[],[]⟩ qg Tryz.func52 rfl (by kernel_rfl) ?_;have hr:jO V S=qh (stE V S) (List.range S.length):=rfl;generalize jO V S=r at hr;simp[-getElem?_pos];refine qv.listR S (fun d ev O=>ev 0=.ptr B 0/\ev 1=sG S/\ev 8=sG S/\ev 9=I_ S.length/\ev 10=I_ d.length/\O.T=T/\KpL [vb] H O.H/\BX T0 B vb m c (d.foldl Q7 V) O D E td R clk/\∀ k,k<d.length->stE V S k=0) ?_ ?_ ?_
 . exact⟨by simp,by simp,by simp,by simp,by simp,rfl,KpL.refl,h,by simp⟩
 . rintro d s l ev ⟨H1,T1⟩ Rl hRl hd hx hlt ⟨h0,h1,h8,h9,h10,hT,hkp,hB,hz⟩;simp only at hT;subst hT;have hVl:=vQ d V;have hnm:=qbj (Qj d V) s.name;have hat:=qbp d V (ka V s.name).toNat;have hbad:stE V S d.length≠0->r=stE V S d.length:=fun hn=>by
    rw[hr];refine ko (l:=List.range S.length) (i:=d.length) (by rw[qs7 hlt]) (fun k hk=>hz k ?_) hn;rw[qtW]at hk;have:=qrC.1 hk;omega
   have hst:stE V S d.length=(match V[(ka V s.name).toNat]? with
    | some v=>if ka V s.name<0\/v.mode≠0 then 7 else if (S.take d.length).any (fun x=>x.name==s.name)=true then 8 else if s.value<0\/2 ^ v.width.toNat<=s.value then 1 else 0
    | none=>7):=by unfold stE;simp only[hx];cases V[(ka V s.name).toNat]?<;>rfl
   have htk:S.take d.length=d:=(by rw[hd,qsF];rfl);have hfd:(d++[s]).foldl Q7 V=Q7 (d.foldl Q7 V) s:=(by simp);rw[htk]at hst;obtain⟨vv,dv,b1,b2,b3⟩:=hB.cell;simp only at b1 b2;have hlV':(d.foldl Q7 V).length<=1000:=(by omega);have hsv:Q7 (d.foldl Q7 V) s=(match (d.foldl Q7 V)[(ka V s.name).toNat]? with
    | some v=>(d.foldl Q7 V).set (ka V s.name).toNat ⟨v.name,v.width,v.mode,s.value⟩
    | none=>d.foldl Q7 V):=by rw[<- hnm];rfl
   have hwd:∀ v,V[(ka V s.name).toNat]?=some v->0<=v.width/\v.width<=8:=fun v hv=>hw v (qqW hv)
   generalize d.foldl Q7 V=W at *;have hrng:=yn (p:=fun v:Var=>v.name==s.name) (l:=W) (i:=0) (qso 0);have hidx:qF (fun v:Var=>v.name==s.name) W 0=ka V s.name:=hnm;rw[hidx]at hrng;have hfz:Leq (frz (H1++[.cells (qD s)]) 8 vv) (sV W):=(b2.keep fun x _ hx=>qb hx _).frz (fun x=>by simp) (fun x=>by simp) (fun x=>by simp) 7;simp only[qD]at hfz;simp[-getElem?_pos,h8,h9,h10,hlt,hx];rw[qeX rfl];simp[-getElem?_pos,h0,qb b1];refine qd.lent (index GG W s.name (by unfold Fits;omega)) rfl (by simpa[zt,Qi] using hfz) ?_;rw[hidx];generalize ka V s.name=I at *;by_cases hI:I<0
   . have h7:stE V S d.length=7:=(by rw[hst];cases V[I.toNat]? with | none=>rfl | some v=>simp[hI]);have e7:=hbad (by rw[h7];decide);rw[h7]at e7;subst e7;simp[-getElem?_pos,hI];exact hkp.trans KpL.app
   . have hI0:0<=I:=(by omega);obtain⟨k,rfl⟩:=qrj hI0;have hkW:k<W.length:=(by have:=(hrng hI0).2;omega);have hWne:W≠[]:=(by rintro rfl;simp at hkW);obtain⟨rfl,hrow⟩:=b2.at hWne;obtain⟨w,hwk⟩:∃ w,W[k]?=some w:=⟨_,qq6 hkW⟩;rw[qsr]at hat hst hsv hwd;rw[hwk]at hat hsv;obtain⟨v,hvk,hve⟩:∃ v,V[k]?=some v/\(w.name=v.name/\w.width=v.width/\w.mode=v.mode):=by
      cases hv:V[k]? with
      | none=>rw[hv]at hat;cases hat
      | some v=>rw[hv]at hat;simp at hat;exact⟨v,rfl,hat⟩
     obtain⟨e1,e2,e3⟩:=hve;rw[hvk]at hst;simp only[hI,false_or]at hst;obtain⟨f1,f2⟩:=qn4 hwk;have hw8:=hwd v hvk;have hkI:(k:Int)<W.length:=(by omega);rw[e3]at f2;rw[e2]at f1;obtain⟨t1,l1⟩:=jf f1;obtain⟨t2,l2⟩:=jf f2;have hcl:=Go.Abs.flat_len (en:=qo) (sz:=4) (fun x=>rfl) W;have hsf:=KB s.value W k w hwk;have l3:k*4+3+1<=(W.flatMap qo).length:=(by omega);generalize hcs:W.flatMap qo=cs at hrow t1 l1 t2 l2 hcl hsf l3;have hle:d.length<=S.length:=(by omega);by_cases hm0:v.mode=0
     . rw[hm0]at t2;simp only[hm0,ne_eq,not_true_eq_false,if_false]at hst;simp[-getElem?_pos,hI,h0,h1,qb b1,hkI,qb hrow,t2,l2,jg,jp,Jb,hle];rw[<- List.map_take,htk];refine qd.lent (args':=[sG d,.fn 109 [] [.rptr (qD s)]]) (WO GG d (fun y=>y.name==s.name) 109 [] [.rptr (qD s)] (by unfold Fits;omega) rfl (by simp) fun y _=>qpu y s) rfl ?_ ?_
       . simp only[qqZ,qq9,zt,and_true];refine⟨qe5 (fun x=>by simp) (fun x=>by simp) _ 7 d _,?_⟩;simp[frz]
       . cases hdu:d.any (fun y=>y.name==s.name)
         . rw[hdu,if_neg (by simp)]at hst;obtain⟨wn,hwn⟩:=qrj hw8.1;have hwn8:wn<=8:=(by omega);have hmin:min wn 64=wn:=(by omega);have hpw:(2:Int) ^ wn<=256:=by
            have:wn=0\/wn=1\/wn=2\/wn=3\/wn=4\/wn=5\/wn=6\/wn=7\/wn=8:=by omega
            rcases this with rfl|rfl|rfl|rfl|rfl|rfl|rfl|rfl|rfl<;>decide
           have hpp:(0:Int)<2 ^ wn:=qtg (by omega);have hww:IntKind.i64.wrap (2 ^ wn)=2 ^ wn:=wr (by omega) (by omega);have hb64:IntKind.i64.bits=64:=rfl;have hwn0:¬ (wn:Int)<0:=(by omega);rw[hwn]at t1 hst;rw[qsr]at hst;simp[-getElem?_pos];rw[qeX rfl];by_cases hv0:s.value<0
           . have h7:stE V S d.length=1:=(by rw[hst,if_pos (.inl hv0)]);have e7:=hbad (by rw[h7];decide);rw[h7]at e7;subst e7;simp[-getElem?_pos,hv0];exact hkp.trans KpL.app
           . by_cases hv1:(2:Int) ^ wn<=s.value
             . have h7:stE V S d.length=1:=(by rw[hst,if_pos (.inr hv1)]);have e7:=hbad (by rw[h7];decide);rw[h7]at e7;subst e7;simp[-getElem?_pos,h0,qb b1,hkI,qb hrow,t1,l1,hv0,hv1,qiw,hmin,hww,hb64,hwn0];exact hkp.trans KpL.app
             . have h00:stE V S d.length=0:=(by rw[hst,if_neg (fun e=>e.elim hv0 hv1)]);simp[-getElem?_pos,h0,qb b1,hkI,qb hrow,t1,l1,hv0,hv1,qiw,hmin,hww,hb64,hwn0];rw[zJ rfl];simp[-getElem?_pos,zR,h0,h10,qb b1,hkI,qb hrow,l3,hsf,zV hrow];simp only at hsv;obtain⟨hB5,_,_⟩:=hB.setv (V':=W.set k ⟨w.name,w.width,w.mode,s.value⟩) (by simp) hWne;refine hRl _ _ ⟨h0,h1,h8,h9,by simp;exact wr (by omega) (by omega),rfl,hkp.trans ((KpL.set (by simp)).trans KpL.app),?_,fun q hq=>?_⟩
               . rw[hfd,hsv];exact hB5.ext _ qr6
               . have hq':q<d.length\/q=d.length:=(by simp at hq;omega);rcases hq' with hq' | rfl
                 . exact hz q hq'
                 . exact h00
         . have h7:stE V S d.length=8:=(by rw[hst,hdu,if_pos rfl]);have e7:=hbad (by rw[h7];decide);rw[h7]at e7;subst e7;simp[-getElem?_pos];exact hkp.trans KpL.app
     . have h7:stE V S d.length=7:=(by rw[hst,if_pos hm0]);have e7:=hbad (by rw[h7];decide);rw[h7]at e7;subst e7;simp[-getElem?_pos,hI,h0,h1,qb b1,hkI,qb hrow,t2,l2,hm0];exact hkp.trans KpL.app
 . rintro ev ⟨H1,T1⟩ ⟨h0,h1,h8,h9,h10,hT,hkp,hB,hz⟩;simp only at hT;subst hT;have e0:r=0:=(by rw[hr];exact qr.2 fun k hk=>hz k (qrC.1 hk));subst e0;simp[-getElem?_pos,h9,h10];exact⟨hkp,hB⟩
end
end
abbrev GP:=Nat×List Int×Abs.Tok
def gv (p:GP):AV:=.sl p.1 (p.2.1.map qY) p.2.2
def emp (p:GP):Bool:=p.2.1.isEmpty
theorem qgN (p:GP):PZ 115 [gv p] (.bool (emp p)):=by
 refine Pure.k qg Tryz.func115 rfl (by kernel_rfl) ?_;obtain⟨sz,l,t⟩:=p
 cases l with
 | nil=>simp[gv,emp]
 | cons a l=>simp[gv,emp];omega
theorem findE:∀ (ps:List GP) (i:Int),(qF emp ps i = -1/\∀ x∈ps,emp x=false)\/∃ p e l,ps=p++e::l/\(∀ x∈p,emp x=false)/\emp e=true/\qF emp ps i=i+p.length
 | [],i=>.inl ⟨rfl,by simp⟩
 | a::r,i=>by
  cases h:emp a with
  | true=>exact .inr ⟨[],a,r,rfl,by simp,h,by simp[qF,h]⟩
  | false=>
   rcases findE r (i+1) with ⟨h1,h2⟩|⟨p,e,l,rfl,h2,h3,h4⟩
   . exact .inl ⟨by simp[qF,h,h1],by simpa[h] using h2⟩
   . refine .inr ⟨a::p,e,l,rfl,by simpa[h] using h2,h3,?_⟩;simp only[qF,h,h4,qrq,if_false,qq5];omega
theorem qqm (p:GP):AV.atom (gv p)=true/\acells (gv p)=some [gv p]:=⟨rfl,rfl⟩
theorem qno (ps:List GP)(hp:ps.length<=1000000)(tl:List AV)(H:List Blk)(T:List (Option Nat))(b:Nat)(hb:H[b]?=some (.cells (ps.map gv++tl))) :
 qq Zp GG 186 [.ms b 0 ps.length 1,.fn 115 [] []] ⟨H,T⟩ (fun r O'=>r=I_ (qF emp ps 0)/\O'=⟨H,T⟩):=by
 refine qq.k qg Tryz.func186 rfl (by kernel_rfl) ?_;simp;refine qv.listR ps (fun d ev O=>ev 0=.ms b 0 ps.length 1/\ev 1=.fn 115 [] []/\ev 7=I_ ps.length/\ev 8=I_ d.length/\O=⟨H,T⟩/\qF emp ps 0=qF emp (ps.drop d.length) d.length) ?_ ?_ ?_
 . exact⟨by simp,by simp,by simp,by simp,rfl,by simp⟩
 . rintro d p l ev O Rl hRl hd hx hlt ⟨h0,h1,h7,h8,rfl,hf⟩;obtain⟨t1,t2⟩:=jf (cs:=ps.map gv++tl) (i:=d.length) (x:=gv p) (by rw[qrc (by simpa using hlt),qrw,hx];rfl);have hw:=wq (n:=d.length) (by omega);obtain⟨g1,g2⟩:=qqm p;rw[zn hx]at hf;simp only[qF]at hf;have t3:d.length+1<=ps.length+tl.length:=(by omega);simp[h0,h1,h7,h8,hlt,hb,t1,t3,gv];refine qd.pure (qgN ⟨p.1,p.2.1,.none⟩) (by obtain⟨z,l,t⟩:=p;cases t<;>simp) (by obtain⟨z,l,t⟩:=p;cases t<;>simp[gv]) ?_;rw[show emp ⟨p.1,p.2.1,.none⟩=emp p from rfl]
   cases he:emp p with
   | true=>
    simp[hf,he]
   | false=>
    simp[h8,hw];refine hRl _ _ ⟨h0,h1,h7,by simp,rfl,?_⟩;rw[hf,he];simp
 . rintro ev O ⟨h0,h1,h7,h8,rfl,hf⟩;simp[h7,h8];rw[hf];simp[qF]
theorem VI (A:List AV):∀ (v:List AV) (off:Nat) (M:List AV),A.length<=off->∃ tl,ju (A++M) off v=A++tl
 | [],off,M,h=>⟨M,rfl⟩
 | x::r,off,M,h=>by
  rw[ju,qsX _ _ h];exact VI A r (off+1) _ (by omega)
theorem qk9 (ps:List GP)(hp:ps.length<=1000000)(H:List Blk)(T:List (Option Nat))(b:Nat)(hb:H[b]?=some (.cells (ps.map gv))) :
 qq Zp GG 114 [.ms b 0 ps.length 1,.fn 115 [] []] ⟨H,T⟩ (fun r O'=>r=.ms b 0 (ps.filter fun p=>!emp p).length 1/\O'.T=T/\KpL [b] H O'.H/\∃ tl,O'.H[b]?=some (.cells ((ps.filter fun p=>!emp p).map gv++tl))):=by
 refine qq.k qg Tryz.func114 rfl (by kernel_rfl) ?_;simp;refine qd.acall (qno ps hp [] H T b (by simpa using hb)) ?_;rintro v O' ⟨rfl,rfl⟩;rcases findE ps 0 with ⟨h1,h2⟩|⟨p1,e,l,rfl,h2,h3,h4⟩
 . have hfil:(ps.filter fun p=>!emp p)=ps:=qsQ.2 fun x hx=>by simp[h2 x hx]
   rw[hfil,h1];simp;exact⟨KpL.refl,[],by simpa using hb⟩
 . have hne:¬ ((p1.length:Int) = -1):=(by omega);have hfil:((p1++e::l).filter fun p=>!emp p)=p1++l.filter fun p=>!emp p:=by
    rw[qrI,qsg,if_neg (by simp[h3]),qsQ.2 fun x hx=>by simp[h2 x hx]]
   rw[hfil,h4,qtQ];rw[qqY,qq5]at hp;have hw1:=wq (n:=p1.length) (by omega);simp[hne,hw1];refine qv.listR l (fun d ev O=>ev 0=.ms b 0 (p1.length+(l.length+1)) 1/\ev 1=.fn 115 [] []/\ev 5=I_ (p1.length+(d.filter fun p=>!emp p).length:Nat)/\ev 6=I_ (p1.length+1+d.length:Nat)/\O.T=T/\KpL [b] H O.H/\∃ M,O.H[b]?=some (.cells ((p1++d.filter fun p=>!emp p).map gv++(M++(l.drop d.length).map gv)))/\(d.filter fun p=>!emp p).length+M.length=d.length+1) ?_ ?_ ?_
   . exact⟨by simp,by simp,by simp,by simp,rfl,KpL.refl,[gv e],by simpa using hb,by simp⟩
   . rintro d p r ev ⟨H1,T1⟩ Rl hRl hd hx hlt ⟨h0,h1,h5,h6,hT,hkp,M,hc,hM⟩;obtain rfl:T=T1:=hT.symm;simp only at hc;have hfl:(d.filter fun p=>!emp p).length<=d.length:=qrr _ _;rw[zn hx,qqZ]at hc;obtain⟨t1,t2⟩:=jf (cs:=(p1++d.filter fun p=>!emp p).map gv++(M++gv p::(l.drop (d.length+1)).map gv)) (i:=p1.length+1+d.length) (x:=gv p) (by
      rw[qro (by simp;omega),qro (by simp;omega)];rw[show p1.length+1+d.length-((p1++d.filter fun p=>!emp p).map gv).length-M.length=0 by simp;omega];rfl)
     have hft:(d++[p]).filter (fun p=>!emp p)=d.filter (fun p=>!emp p)++(if emp p=true then [] else [p]):=by
      rw[qrI];cases hee:emp p<;>simp[hee]
     obtain⟨m0,M',rfl⟩:∃ m0 M',M=m0::M':=by
      cases M with
      | nil=>simp at hM;omega
      | cons a r=>exact⟨a,r,rfl⟩
     generalize hfe:(d.filter fun p=>!emp p)=F at *;have hw2:IntKind.i64.wrap ((p1.length+1+d.length:Nat)+1:Int)=(p1.length+1+(d.length+1):Nat):=(by rw[wr (by omega) (by omega)];omega);have hw3:IntKind.i64.wrap ((p1.length+F.length:Nat)+1:Int)=(p1.length+(F.length+1):Nat):=(by rw[wr (by omega) (by omega)];omega);have hll:((p1.length+1+d.length:Nat):Int)<((p1.length+(l.length+1):Nat):Int):=(by omega);have hset:∀ v,((p1++F).map gv++(m0::M'++gv p::(l.drop (d.length+1)).map gv)).set (p1.length+F.length) v=(p1++F).map gv++(v::M'++gv p::(l.drop (d.length+1)).map gv):=fun v=>by
      rw[qsX _ _ (by simp)];rw[show p1.length+F.length-((p1++F).map gv).length=0 by simp];rfl
     generalize hcs:(p1++F).map gv++(m0::M'++gv p::(l.drop (d.length+1)).map gv)=cs at *;have t3:p1.length+F.length+1<=cs.length:=(by omega);have hfl1:F.length<l.length+1:=(by omega);simp[-Int.natCast_add,h0,h1,h6,hll,hc,t1,t2,gv];refine qd.pure (qgN ⟨p.1,p.2.1,.none⟩) (by obtain⟨z,l,t⟩:=p;cases t<;>simp) (by obtain⟨z,l,t⟩:=p;cases t<;>simp[gv]) ?_;rw[show emp ⟨p.1,p.2.1,.none⟩=emp p from rfl]
     cases he:emp p with
     | true=>
      rw[he,if_pos rfl,qrl]at hft;simp[-Int.natCast_add,h6,hw2];refine hRl _ _ ⟨h0,h1,by simp[h5,hft],by simp[-Int.natCast_add],rfl,hkp,m0::M'++[gv p],?_,?_⟩
      . rw[hft,qqY,qq8];simp only[hc,<- hcs];simp
      . rw[hft];simp at hM ⊢;omega
     | false=>
      rw[he,if_neg (by simp)]at hft;simp[-Int.natCast_add,h0,h5,h6,hw2,hw3,hc,t3,hfl1];have hb1:=(qqV.1 hc).1;refine hRl _ _ ⟨h0,h1,?_,by simp[-Int.natCast_add],rfl,hkp.trans (KpL.set (by simp)),M'++[gv p],?_,?_⟩
      . rw[hft,qqY,qq8];simp[-Int.natCast_add]
      . show (H1.set b _)[b]?=_;rw[qq4 hb1,hft,qqY,qq8];have:=hset (gv p);simp only[gv]at this;rw[this];simp[gv]
      . rw[hft];simp at hM ⊢;omega
   . rintro ev ⟨H1,T1⟩ ⟨h0,h1,h5,h6,hT,hkp,M,hc,hM⟩;obtain rfl:T=T1:=hT.symm;simp only at hc;have hfl:(l.filter fun p=>!emp p).length<=l.length:=qrr _ _;rw[List.drop_length,qq9,qrl]at hc;generalize hfe:(l.filter fun p=>!emp p)=F at *;have hll:¬ (((p1.length+1+l.length:Nat):Int)<((p1.length+(l.length+1):Nat):Int)):=(by omega);have htk:((p1++F).map gv++M).take (p1.length+F.length)=(p1++F).map gv:=by
      rw[qsb (by simp),qrb (by simp)]
     have hcl:((p1++F).map gv++M).length=p1.length+(l.length+1):=(by simp;omega);generalize hcs:(p1++F).map gv++M=cs at *;have hs1:jg (.ms b 0 (p1.length+(l.length+1)) 1) (some (I_ (p1.length+F.length:Nat))) none none=some (.ms b (p1.length+F.length) ((p1.length+(l.length+1))-(p1.length+F.length)) 1):=by
      simp only[jg,jp,wx];rw[if_pos (by omega)];simp[-Int.natCast_add]
     have hs2:jg (.ms b 0 (p1.length+(l.length+1)) 1) none (some (I_ (p1.length+F.length:Nat))) none=some (.ms b 0 (p1.length+F.length) 1):=by
      simp only[jg,jp,wx];rw[if_pos (by omega)];simp[-Int.natCast_add]
     have hb1:=(qqV.1 hc).1;obtain⟨tl,htl⟩:=VI ((p1++F).map gv) (List.replicate (p1.length+(l.length+1)-(p1.length+F.length)) (.sl 0 [] .nil)) (p1.length+F.length) M (by simp);rw[hcs]at htl;have hcl2:p1.length+F.length+(p1.length+(l.length+1)-(p1.length+F.length))<=p1.length+(l.length+1):=(by omega);simp[-Int.natCast_add,h0,h5,h6,hll,hc,hcl,hs1,hs2,qak,hcl2];refine⟨hkp.trans (KpL.set (by simp)),tl,?_⟩;rw[qq4 hb1,htl];simp
section
theorem wV {E:List (Int×Int)}:∀ (f:Nat) (i:Int),qJ E f i<=f
 | 0,i=>qrn _
 | f+1,i=>wT.2 fun e he _=>by have:=wV (E:=E) f e.2;omega
theorem vU {E:List (Int×Int)}(n:Nat)(i:Int):qJ E n i<=JT E n:=by
 have ht:=(Zf (fun e:Int×Int=>qJ E n e.1) (JT E n) E 0).1 (qrn _)
 cases n with
 | zero=>exact qsW _
 | succ n=>
  cases hc:qJ E (n+1) i with
  | zero=>exact qsW _
  | succ k=>
   obtain⟨e,he,rfl,_⟩:=vV (E:=E) (f:=n) (n:=k) (i:=i) (by omega);rw[<- hc];exact ht.2 e he
theorem QC {E:List (Int×Int)}{n k:Nat}(h:∀ e∈E,qJ E n e.1<=k):JT E n<=k:=(Zf (fun e:Int×Int=>qJ E n e.1) k E 0).2 ⟨qsW _,h⟩
theorem qkl {E:List (Int×Int)}(n:Nat)(i:Int):yk E n i<=JT E n:=by
 unfold yk;split
 . exact vU n i
 . exact qrn _
structure GrpOk (n:Nat)(T:List (Option Nat))(ps:List GP):Prop where
 shape:∀ p∈ps,(p.2.1=[]/\p.1=0/\p.2.2=.nil)\/(p.2.1≠[]/\p.1=1/\∃ t,n<=t/\p.2.2=.chain t p.2.1.length/\T[t]?=some (some p.2.1.length))
 dist:∀ (i j:Nat) (p q:GP) (t a b:Nat),ps[i]?=some p->ps[j]?=some q->p.2.2=.chain t a->q.2.2=.chain t b->i=j
theorem GrpOk.add {T0 T:List (Option Nat)}{ps:List GP}(h:GrpOk T0.length T ps)(hT:T0 <+: T){k:Nat}{p:GP}(hk:ps[k]?=some p)(hl:p.2.1.length<=1000000000)(i:Int) :
 ∃ p' T',(∀ H,qt (Dof Zp) ⟨H,T⟩ 28 (gv p) (.sl 1 [[I_ i]] .tight)=some (gv p',⟨H,T'⟩))/\p'.2.1=p.2.1++[i]/\GrpOk T0.length T' (ps.set k p')/\T0 <+: T':=by
 obtain⟨hkl,hkp⟩:=qqV.1 hk;have hget:∀ (p':GP) (i:Nat) (q:GP),(ps.set k p')[i]?=some q->(i=k/\q=p')\/(i≠k/\ps[i]?=some q):=fun p' i q hq=>by
  by_cases e:i=k
  . subst e;rw[qq4 hkl]at hq;cases hq;exact .inl ⟨rfl,rfl⟩
  . rw[qqX (Ne.symm e)]at hq;exact .inr ⟨e,hq⟩
 have htok:∀ (i:Nat) (q:GP) (t a:Nat),ps[i]?=some q->q.2.2=.chain t a->t<T.length/\T0.length<=t/\q.2.1≠[]/\q.1=1/\a=q.2.1.length/\T[t]?=some (some q.2.1.length):=fun i q t a hq hc=>by
  rcases h.shape q (qqW hq) with ⟨_,_,h3⟩|⟨h1,h2,t',h3,h4,h5⟩
  . rw[h3]at hc;cases hc
  . rw[h4]at hc;cases hc;exact⟨(qqV.1 h5).1,h3,h1,h2,rfl,h5⟩
 rcases h.shape p (qqW hk) with ⟨h1,h2,h3⟩|⟨h1,h2,t,h3,h4,h5⟩
 . obtain⟨s,l,tk⟩:=p;simp only at h1 h2 h3;subst h1 h2 h3;refine⟨⟨1,[i],.chain T.length 1⟩,T++[some 1],fun H=>by simp[gv,qt,zD,qY],rfl,⟨fun q hq=>?_,fun a b q r t u w ha hb hc hd=>?_⟩,hT.trans (qrY _ _)⟩
   . rcases qsj hq with hq|rfl
     . rcases h.shape q hq with h1|⟨h1,h2,t,h3,h4,h5⟩
       . exact .inl h1
       . exact .inr ⟨h1,h2,t,h3,h4,by rw[qrc (qqV.1 h5).1];exact h5⟩
     . exact .inr ⟨by simp,rfl,T.length,by obtain⟨u,rfl⟩:=hT;simp,rfl,by simp⟩
   . rcases hget _ a q ha with ⟨rfl,rfl⟩|⟨hna,ha2⟩
     . rcases hget _ b r hb with ⟨rfl,rfl⟩|⟨hnb,hb2⟩
       . rfl
       . have:=htok b r t w hb2 hd;cases hc;omega
     . rcases hget _ b r hb with ⟨rfl,rfl⟩|⟨hnb,hb2⟩
       . have:=htok a q t u ha2 hc;cases hd;omega
       . exact h.dist a b q r t u w ha2 hb2 hc hd
 . obtain⟨s,l,tk⟩:=p;simp only at h1 h2 h4 h5 hl;subst h2 h4;have hll:l.length+1<=1073741824:=(by omega);refine⟨⟨1,l++[i],.chain t (l.length+1)⟩,T.set t (some (l.length+1)),fun H=>by simp[gv,qt,zD,qY,h5,hll],rfl,⟨fun q hq=>?_,fun a b q r t2 u w ha hb hc hd=>?_⟩,Za hT h3 _⟩
   . obtain⟨j,hj⟩:=qr3 hq;rcases hget _ j q hj with ⟨rfl,rfl⟩|⟨hnj,hj⟩
     . refine .inr ⟨by simp,rfl,t,h3,by simp,?_⟩;rw[qq4 (qqV.1 h5).1];simp
     . rcases h.shape q (qqW hj) with h1|⟨g1,g2,t2,g3,g4,g5⟩
       . exact .inl h1
       . refine .inr ⟨g1,g2,t2,g3,g4,?_⟩;have hne:t≠t2:=by
          rintro rfl;exact hnj (h.dist j k q ⟨1,l,.chain t l.length⟩ t _ _ hj hk g4 rfl)
         rw[qqX hne];exact g5
   . rcases hget _ a q ha with ⟨rfl,rfl⟩|⟨hna,ha2⟩
     . rcases hget _ b r hb with ⟨rfl,rfl⟩|⟨hnb,hb2⟩
       . rfl
       . cases hc;exact absurd (h.dist b a r _ t w _ hb2 hk hd rfl) hnb
     . rcases hget _ b r hb with ⟨rfl,rfl⟩|⟨hnb,hb2⟩
       . cases hd;exact absurd (h.dist a b q _ t u _ ha2 hk hc rfl) hna
       . exact h.dist a b q r t2 u w ha2 hb2 hc hd
def GAt (gb:Nat)(H:List Blk)(v:AV)(gs:List (List Int)):Prop:=∃ (ps:List GP) (tl:List AV),v=.ms gb 0 ps.length 1/\H[gb]?=some (.cells (ps.map gv++tl))/\ps.map (fun p=>p.2.1)=gs/\∀ p∈ps,p.1=1/\∃ t n,p.2.2=.chain t n
section
variable {T0:List (Option Nat)}{B vb m:Nat}{c:Cls}{V:List Var}
def qbU (V:List Var)(E:List (Int×Int))(i k:Nat):List Int:=((List.range i).filter fun (i:Nat)=>zW V (i:Int)&&decide (yk E V.length (i:Int)=k)).map fun (i:Nat)=>(i:Int)
theorem Wo (V:List Var)(E:List (Int×Int))(i k:Nat):qbU V E (i+1) k=if zW V (i:Int)=true/\yk E V.length (i:Int)=k then qbU V E i k++[(i:Int)] else qbU V E i k:=by
 unfold qbU;rw[qrX,qrI,qrf];by_cases h:zW V (i:Int)=true/\yk E V.length (i:Int)=k
 . rw[if_pos h];simp[h.1,h.2]
 . rw[if_neg h];have:(zW V (i:Int)&&decide (yk E V.length (i:Int)=k))=false:=by
    cases h1:zW V (i:Int) with
    | false=>rfl
    | true=>simp;exact fun h2=>h ⟨h1,h2⟩
   simp[this]
theorem JC (V:List Var)(E:List (Int×Int))(i k:Nat):(qbU V E i k).length<=i:=by
 unfold qbU;rw[qrv];exact qrN (qrr _ _) (by simp)
def GrpC (V:List Var)(E:List (Int×Int))(i:Nat)(ps:List GP):Prop:=∀ (k:Nat) (p:GP),ps[k]?=some p->p.2.1=qbU V E i k
theorem qkH (hl:V.length<=1000){D:List Dist}{E:List (Int×Int)}{td:Nat}{R:List Rec}{clk:Nat}(hE:E.length<=1000000000)(hb:Below E V.length)(H:List Blk)(T:List (Option Nat))(h:BX T0 B vb m c V ⟨H,T⟩ D E td R clk){vv dv:AV}
 (hc:H[B]?=some (.cells [.str c.name,.str c.parent,sF c.fields,sB c.blocks,vv,.sl 0 [] .nil,.sl 0 [] .nil,dv,.sl 0 [] .nil,.map m])) :
 qq Zp GG 54 [.ptr B 0] ⟨H,T⟩ (fun r O'=>r=I_ (if acyc E V.length=true then 0 else 10)/\T <+: O'.T/\KpL [B] H O'.H/\(acyc E V.length=true->∃ gvv gb,H.length<=gb/\GAt gb O'.H gvv (zB V E) /\
  O'.H[B]?=some (.cells [.str c.name,.str c.parent,sF c.fields,sB c.blocks,vv,.sl 0 [] .nil,.sl 0 [] .nil,dv,gvv,.map m]))):=by
 refine qq.k qg Tryz.func54 rfl (by kernel_rfl) ?_;obtain⟨vv',dv',hc',hvv,hdv⟩:=h.cell;obtain⟨rfl,rfl⟩:vv'=vv/\dv'=dv:=by
  have h1:H[B]?=_:=hc';rw[hc]at h1;simp at h1;exact⟨h1.1.symm,h1.2.symm⟩
 clear hc';simp only at hvv;simp;refine qd.acall (qkk hl hE hb H T h) ?_;rintro v ⟨H1,T1⟩ ⟨hT,hkp,hres⟩;obtain rfl:T=T1:=hT.symm;by_cases ha:acyc E V.length=true
 . rw[if_pos ha]at hres;obtain⟨b,L,clk1,rfl,hbl,hlv,hok,hval⟩:=hres;simp only at hlv;simp[ha,hlv];have hH1:=(qqV.1 hlv).1;have hstm:((L.map wb).map (·.2.2)).Nodup:=(by rw[qcL];exact hok.stamps);have hltm:∀ e∈L.map wb,e.2.2<clk1:=fun e he=>by
    obtain⟨r,hr,rfl⟩:=qq3.1 he;exact hok.lt r hr
   have hLv:∀ r∈L,yP E r.key=true/\r.val=qJ E V.length r.key:=fun r hr=>by
    have h1:=hval r.key;rw[Q4 hok.keys hr]at h1;split at h1
    . rename_i h2;exact⟨h2,by simpa using h1⟩
    . cases h1
   refine qv.gen (fun n ev O=>ev 0=.ptr B 0/\ev 3=.map b/\ev 20=.iter H1.length/\O.T=T/\KpL [] H1 O.H/\∃ seen mx,n=(wk (L.map wb) seen).length/\ev 5=I_ mx/\0<=mx/\mx<=JT E V.length/\O.H[H1.length]?=some (.miter (some b) clk1 seen clk1)/\∀ r∈L,r.stamp∈seen->r.val<=mx) (wk (L.map wb) []).length ?_ ?_
   . exact⟨by simp,by simp,by simp,rfl,KpL.app,[],0,rfl,by simp,by omega,by omega,by simp,by simp⟩
   . rintro n ev ⟨H2,T2⟩ Rl hRl ⟨h0,h3,h20,hT,hk2,seen,mx,rfl,h5,hm0,hm1,hit,hds⟩;obtain rfl:T=T2:=hT.symm;have hlv2:=hk2.2 _ _ hlv (by simp);simp only at hit hlv2 hk2;have hnx:=KX (T:=T) hit hlv2 hltm;simp[h20,hnx];refine qkr fun v τ hv=>?_
     rcases qre.1 hv with hv|hv
     . split at hv
       case isFalse=>cases hv
       rename_i hle;have hall:=qa9 (es:=L.map wb) (seen:=seen) (by rw[hle];rfl);simp at hv;obtain⟨rfl,rfl⟩:=hv;have hmx:mx=JT E V.length:=by
        have h1:JT E V.length<=mx.toNat:=QC fun e he=>by
         have h2:=hval e.1;rw[if_pos (qbh he).1]at h2;obtain⟨r,hr,hr1,hr2⟩:=qb7 h2;have:=hds r hr (hall _ (qq3.2 ⟨r,hr,rfl⟩));omega
        omega
       subst hmx;have htl:JT E V.length<=V.length:=QC fun e _=>wV _ _
       have hw:IntKind.i64.wrap ((JT E V.length:Int)+1)=(JT E V.length+1:Nat):=(by rw[wr (by omega) (by omega)];omega);have hc1:=hkp.2 _ _ hc (by simp);have hc2:=hk2.2 _ _ hc1 (by simp);have hBl:=(qqV.1 hc).1;have hBl1:=(qqV.1 hc1).1;generalize htop:JT E V.length=top at *;obtain⟨ps0,hps0⟩:∃ ps0,ps0=List.replicate (top+1) ((0,[],.nil):GP):=⟨_,rfl⟩;have hlen:∀ O,kw (Dof Zp) O 31 vv'=some (I_ V.length):=fun O=>by
        rcases hvv with ⟨rfl,rfl⟩|⟨_,rfl,_⟩<;>simp
       have hms:je (Dof Zp) ⟨H2,T⟩ 34 (I_ (top+1:Nat)) (I_ (top+1:Nat))=some (.ms H2.length 0 (top+1) 1,⟨H2++[.cells (ps0.map gv)],T⟩):=by
        have h1:(0:Int)<=((top+1:Nat):Int):=(by omega);have h2:((top+1:Nat):Int)<=1073741824:=(by omega);have h3:¬ ((top+1:Nat):Int)=0:=(by omega);have h4:(List.replicate (top+1) [AV.sl 0 [] .nil]).flatten=ps0.map gv:=by
         rw[hps0,List.map_replicate];generalize top+1=n
         induction n with
         | zero=>rfl
         | succ n ih=>rw[qss,qrA,ih,qss];rfl
        simp[je,wx,-Int.natCast_add,h1,h2,St.push,h4]
       simp[-Int.natCast_add,-kw,h0,h5,hw,hms,qb hc2,hlen];have hps0l:ps0.length=top+1:=(by rw[hps0];simp);have hgl:H2.length<(H2++[Blk.cells (ps0.map gv)]).length:=(by simp);refine qv.count V.length (fun i ev O=>ev 0=.ptr B 0/\ev 3=.map b/\ev 5=I_ top/\ev 8=.ms H2.length 0 (top+1) 1/\ev 36=I_ V.length/\ev 37=I_ i/\T <+: O.T/\KpL [] H2 O.H/\∃ ps:List GP,O.H[H2.length]?=some (.cells (ps.map gv))/\ps.length=top+1/\GrpOk T.length O.T ps/\GrpC V E i ps) ?_ ?_ ?_
       . refine⟨h0,h3,h5,by simp,by simp,by simp,qr6,KpL.app,ps0,by simp,hps0l,⟨fun p hp=>?_,fun i j p q t x y hi hj hc hd=>?_⟩,fun k p hk=>?_⟩
         . rw[hps0]at hp;rw[qtd hp];exact .inl ⟨rfl,rfl,rfl⟩
         . rw[hps0]at hi;rw[qtd (qqW hi)]at hc;cases hc
         . rw[hps0]at hk;rw[qtd (qqW hk)];rfl
       . clear h0 h3 h5 h20;rintro i ev ⟨H3,T3⟩ hi ⟨h0,h3,h5,h8,h36,h37,hT3,hk3,ps,hg,hpl,hgo,hpc⟩;have hc3:=hk3.2 _ _ hc2 (by simp);have hlv3:=hk3.2 _ _ hlv2 (by simp);simp only at hg hT3 hk3 hgo hlv3 hc3;have hv3:zi vb 4 qo H3 vv' V:=hvv.keep fun x hl hx=>hk3.2 _ _ (hk2.2 _ _ (hkp.2 _ _ hx (by simp)) (by simp)) (by simp)
         have hr1:=qeD V (.sl 0 [] .nil) (.sl 0 [] .nil) (sD D) (.sl 0 [] .nil) rfl rfl rfl rfl (i:Int);have hfz:=qgE hv3 (BX.dists hdv) (i:Int);have hwi:=wq (n:=i) (by omega);have hii:(i:Int)<V.length:=(by omega);have hdac:acells dv'=some [dv']:=by
          rcases hdv with ⟨_,rfl⟩|⟨_,rfl,_⟩<;>rfl
         simp[-Int.natCast_add,h0,h36,h37,hii,hc3];refine qd.lent hr1 rfl hfz ?_;cases hri:zW V (i:Int)
         . simp[-Int.natCast_add,h0,h3,h5,h8,h36,h37,hwi];refine⟨hT3,hk3,ps,hg,hpl,hgo,fun k p hk=>?_⟩;rw[Wo,if_neg (by rw[hri];simp)];exact hpc k p hk
         . have hlk:=hok.look (T:=T3) qas D3x2 hlv3 (i:Int) true;have hvi:=hval (i:Int);have hle:yk E V.length (i:Int)<=top:=(by rw[<- htop];exact qkl _ _);have hls:yk E V.length (i:Int)=if yP E (i:Int)=true then qJ E V.length (i:Int) else top:=by rw[<- htop];rfl
           obtain⟨p,hp⟩:∃ p,ps[yk E V.length (i:Int)]?=some p:=⟨ps[yk E V.length (i:Int)]'(by omega),qq6 _⟩;have hpcl:=hpc _ _ hp;have hplen:p.2.1.length<=1000000000:=(by rw[hpcl];have:=JC V E i (yk E V.length (i:Int));omega);obtain⟨p',T4,happ,hp1,hgo4,hT4⟩:=hgo.add hT3 hp hplen (i:Int);obtain⟨t1,t2⟩:=jf (cs:=ps.map gv) (i:=yk E V.length (i:Int)) (x:=gv p) (by rw[qrw,hp];rfl);have hcp:GrpC V E (i+1) (ps.set (yk E V.length (i:Int)) p'):=fun k q hq=>by
            rw[Wo];by_cases e:yk E V.length (i:Int)=k
            . subst e;rw[qq4 (by omega)]at hq;cases hq;rw[if_pos ⟨hri,rfl⟩,hp1,hpcl]
            . rw[qqX e]at hq;rw[if_neg (fun h=>e h.2)];exact hpc k q hq
           generalize hlv':yk E V.length (i:Int)=lv at *;have hset:(ps.map gv).set lv (gv p')=(ps.set lv p').map gv:=(by rw[qtm]);have hlt:(lv:Int)<((top+1:Nat):Int):=(by omega);generalize hcs:ps.map gv=cs at *;have hgl3:=(qqV.1 hg).1;have hfin:∀ (env:Env),(env 0=.ptr B 0/\env 3=.map b/\env 5=I_ top/\env 8=.ms H2.length 0 (top+1) 1/\env 36=I_ V.length/\env 37=I_ (i+1:Nat))->(env 0=.ptr B 0/\env 3=.map b/\env 5=I_ top/\env 8=.ms H2.length 0 (top+1) 1/\env 36=I_ V.length/\env 37=I_ (i+1:Nat)):=fun _ h=>h
           cases hin:yP E (i:Int) with
           | true=>
            rw[hin,if_pos rfl]at hvi hls;rw[<- hls]at hvi;rw[hvi]at hlk;simp only[if_true,qtK,Option.isSome_some]at hlk;simp[-Int.natCast_add,h0,h3,h5,h8,h36,h37,hwi,hlk,hlt,hg,t1,t2,happ,(qqm p').2];refine⟨hT4,hk3.setF (by omega),ps.set lv p',?_,by rw[qsk];exact hpl,hgo4,hcp⟩;rw[qq4 hgl3,hset]
           | false=>
            rw[hin,if_neg (by simp)]at hvi hls;subst hls;rw[hvi]at hlk;simp only[if_true,Option.getD_none,qtc]at hlk;simp[-Int.natCast_add,h0,h3,h5,h8,h36,h37,hwi,hlk,hlt,hg,t1,t2,happ,(qqm p').2];refine⟨hT4,hk3.setF (by omega),ps.set _ p',?_,by rw[qsk];exact hpl,hgo4,hcp⟩;rw[qq4 hgl3,hset]
       . clear h0 h3 h5 h20;rintro ev ⟨H3,T3⟩ ⟨h0,h3,h5,h8,h36,h37,hT3,hk3,ps,hg,hpl,hgo,hpc⟩;simp only at hg hT3 hk3 hgo;have hd:=qk9 ps (by omega) H3 T3 H2.length hg;rw[hpl]at hd;simp[-Int.natCast_add,h0,h8,h36,h37];refine qd.acall hd ?_;rintro v ⟨H4,T4⟩ ⟨rfl,hT4,hk4,tl,hg4⟩;obtain rfl:T3=T4:=hT4.symm;simp only at hk4 hg4;have q1:H.length<=H1.length:=hkp.1;have q2:H1.length<=H2.length:=hk2.1;have q3:H2.length<=H3.length:=hk3.1;have q4:H3.length<=H4.length:=hk4.1;have hc4:=hk4.2 _ _ (hk3.2 _ _ hc2 (by simp)) (by simp;omega);have hBl4:=(qqV.1 hc4).1;simp[-Int.natCast_add,hc4];refine⟨hT3,?_,_,H2.length,by omega,⟨ps.filter fun p=>!emp p,tl,rfl,?_,?_,fun p hp=>?_⟩,?_⟩
         . refine⟨by rw[qsk];omega,fun k x hk hn=>?_⟩;have hkB:k≠B:=(by simpa using hn);have hkl:=(qqV.1 hk).1;rw[qqX (Ne.symm hkB)];exact hk4.2 _ _ (hk3.2 _ _ (hk2.2 _ _ (hkp.2 _ _ hk (by simp)) (by simp)) (by simp)) (by simp;omega)
         . rw[qqX (by omega)];exact hg4
         . have hmap:ps.map (fun p=>p.2.1)=(List.range (top+1)).map (qbU V E V.length):=by
            apply qr1;intro k;rw[qrw,qrw];by_cases hk:k<top+1
            . obtain⟨p,hp⟩:∃ p,ps[k]?=some p:=⟨ps[k]'(by omega),qq6 _⟩;rw[hp,qs7 hk];exact congrArg some (hpc k p hp)
            . rw[qry (by omega),qry (by simp;omega)];rfl
           have hgr:zB V E=((List.range (JT E V.length+1)).map (qbU V E V.length)).filter fun g=>!g.isEmpty:=rfl
           rw[hgr,htop,<- hmap,List.filter_map];rfl
         . obtain⟨hp1,hp2⟩:=qrz.1 hp;rcases hgo.shape p hp1 with ⟨h1,_⟩|⟨_,h2,t,_,h4,_⟩
           . rw[emp,h1]at hp2;cases hp2
           . exact⟨h2,t,_,h4⟩
         . rw[qq4 hBl4]
     . obtain⟨e,he,hve⟩:=qq3.1 hv;obtain⟨hem,hns⟩:=qba he;obtain⟨r,hr,rfl⟩:=qq3.1 hem;cases hve;have hitn:H1.length<H2.length:=(qqV.1 hit).1;have hen:=WI (H:=H2.set H1.length (.miter (some b) clk1 (seen++[(wb r).2.2]) clk1)) (T:=T) (by rw[qq4 hitn]) (by rw[qqX (by omega)];exact hlv2) hem hstm;have hlen0:=qbb hstm he;obtain⟨hr1,hr2⟩:=hLv r hr;have htop:=vU (E:=E) V.length r.key;simp only[wb]at hen hlen0 ⊢;simp[h20,h5,hen];refine hRl _ _ _ ?_ ⟨h0,h3,h20,rfl,hk2.setF (by omega),seen++[r.stamp],(if r.val > mx then r.val else mx),rfl,by simp,by split<;>omega,by split<;>omega,?_,fun q hq hqs=>?_⟩
       . omega
       . show (List.set _ _ _)[_]?=_;rw[qq4 hitn]
       . rcases qre.1 hqs with h1|h1
         . have:=hds q hq h1;split<;>omega
         . simp at h1;obtain⟨i,hi⟩:=qr3 hr;obtain⟨j,hj⟩:=qr3 hq;have:=Ju hok.stamps hi hj h1.symm;subst this;rw[hi]at hj;cases hj;split<;>omega
 . rw[if_neg ha]at hres;subst hres;simp[ha];exact⟨hkp.1,fun k x hk _=>hkp.2 k x hk (by simp)⟩
end
end
section
theorem Zj (a:Str)(i:Nat)(hi:i<8)(ha:a.length<=1000):PZ 256 [.str a,I_ i] (.agg (qz (jS a i))):=by
 refine Pure.k qg Tryz.func256 rfl (by kernel_rfl) ?_;have hw:IntKind.u8.wrap (IntKind.i64.wrap (48+(i:Int)))=48+(i:Int):=by simp[IntKind.wrap,IntKind.bits,IntKind.signed];omega
 have hb:UInt8.ofNat (48+(i:Int)).toNat=UInt8.ofNat (48+i):=by congr 1
 have hl1:a.length+1<=4611686018427387904:=by omega
 have hl2:a.length+1+1<=4611686018427387904:=by omega
 have hl3:a.length+1+1+1<=4611686018427387904:=by omega
 simp[Zu,Qo,hw,hb,hl1,hl2,hl3];simp[jS,qa,qH]
def NoE (e:Ex):Prop:=∀ x∈pre e,x.op=2->x.name≠[]
theorem NoE.arg {e a:Ex}(h:NoE e)(ha:a∈e.args):NoE a:=fun x hx=>h x (by rw[zb];exact qrk _ (jz.2 ⟨a,ha,hx⟩))
theorem NoE.mk {o n:Int}{s:Str}{a:List Ex}(h:o=2->s≠[])(ha:∀ x∈a,NoE x):NoE (.mk o n s a):=by
 intro x hx;rw[Js]at hx;rcases qra.1 hx with rfl|hx
 . exact h
 . obtain⟨y,hy,hxy⟩:=jz.1 hx;exact ha y hy x hxy
theorem qi2 {s:Str}(h:js s=true):s≠[]:=by
 rintro rfl;unfold js at h;rw[ZP (by rfl)]at h;simp[qO,Qx]at h
theorem za.noE {e:Ex}(h:za e):NoE e:=fun x hx h2=>qi2 (qgj h hx h2)
theorem qcc {b:Ex}:∀ e,NoE e->qZ [] b e=e:=by
 refine Ex.ind fun e ih h=>?_
 rw[kf,if_neg (fun hh=>h e (by rw[zb];simp) hh.1 hh.2)];have:e.args.map (qZ [] b)=e.args:=by
  conv=>rhs;rw[<- List.map_id e.args]
  exact qr7 fun a ha=>ih a ha (h.arg ha)
 rw[this,qkd]
theorem Y4 (a:Str)(i:Nat):NoE (jS a i):=NoE.mk (fun _=>by simp[qH]) (by simp)
theorem Jv (n:Int):NoE (zI n):=NoE.mk (by omega) (by simp)
theorem qj4 (a:Str):∀ k,NoE (JU a k)
 | 0=>Y4 a 0
 | k+1=>NoE.mk (by omega) (by
  intro x hx;simp only[qra,qru,or_false]at hx;rcases hx with rfl|rfl
  . exact qj4 a k
  . exact Y4 _ _)
theorem qj6 (a:Str){idx:Ex}(hi:NoE idx)(n:Nat):∀ k,NoE (Y7 a idx n k)
 | 0=>Jv 0
 | k+1=>NoE.mk (by omega) (by
  intro x hx;simp only[qra,qru,or_false]at hx;rcases hx with rfl|rfl|rfl
  . refine NoE.mk (by omega) fun y hy=>?_
    simp only[qra,qru,or_false]at hy;rcases hy with rfl|rfl
    . exact hi
    . exact Jv _
  . exact Y4 _ _
  . exact qj6 a hi n k)
theorem noE_sc (l:List Var):∀ e,za e->NoE (scE l e):=by
 refine Ex.ind fun e ih hn=>?_
 have hs:∀ x∈e.args.map (scE l),NoE x:=by
  intro x hx;obtain⟨a,ha,rfl⟩:=qq3.1 hx;exact ih a ha (hn.arg ha)
 rw[yT];split
 . exact qj4 _ _
 split
 . have:NoE (qc3 (e.args.map (scE l))):=by
    cases hm:e.args.map (scE l) with
    | nil=>exact Jv 0
    | cons x r=>exact hs x (by rw[hm];simp)
   unfold jN;split
   . split
     . exact Y4 _ _
     . exact Jv _
   . exact qj6 _ this _ _
 . exact NoE.mk (fun h2=>qi2 (by
    obtain⟨_,_,_,_,_,h,_⟩:=zy hn.self;exact h h2)) hs
section
variable {F:yB}{b:Nat}{l:List Var}
def qmC:List (Nat×Sch×List Nat):=[(10,.step 0 [7,6,5] (.step 1 [7,6,5,3] (.step 2 [7,6,5,3] (.step 3 [7,6,5] (.step 4 [7,6,5] (.step 5 [7,6] (.step 6 [7] (.step 7 [] (.done)))))))),[])]
theorem qlh (hag:qlI F l)(a:Str)(hna:qO a=true)(ha:a.length<=1000)(x:Ex)(hs:vG x)(hne:NoE x)(hx:x.op=1->0<=x.n)(H:List Blk)(T:List (Option Nat))(hm:qar H b F) :
 qq Zp GG 257 [.map b,.str a,.agg (qz x)] ⟨H,T⟩ (fun r O'=>r=.agg (qz (jN a x (qA l a)))/\∃ t,O'=⟨H++t,T⟩):=by
 refine qq.up ?_;refine qq.kO ⟨false,qmC,[],[]⟩ qg Tryz.func257 rfl (by kernel_rfl) ?_;obtain⟨es,clk,hb,hkv⟩:=hm;have lk:=fun (H':List Blk) (T':List (Option Nat)) (b:Nat) (s:Str) (ok:Bool) (h:H'[b]?=some (.map es clk))=>vD hkv (T:=T') h s ok
 have hagn:=hag a hna;have h8:=jy l a;generalize qA l a=n at hagn h8 ⊢;by_cases c1:x.op=1
 . by_cases c2:x.n<n
   . have hr:jN a x n=jS a x.n.toNat:=(by unfold jN;rw[if_pos c1,if_pos c2]);rw[hr];have h0:=hx c1;obtain⟨m,hmm⟩:=qrj h0;rw[hmm]at c2;have hv1:=Zj a m (by omega) ha;simp only[qa x];simp[c1,hmm,c2,lk,qb hb,hagn];simp only[qa (jS a m)]at hv1;refine qd.call hv1 rfl ?_;simp;rw[qa (jS a m)];exact zt.refl _
   . have hr:jN a x n=zI 0:=(by unfold jN;rw[if_pos c1,if_neg c2]);rw[hr];simp only[qa x];simp[c1,c2,lk,qb hb,hagn];simp[qa,zI,Leq,zt]
 . have hr:jN a x n=Y7 a x n n:=(by unfold jN;rw[if_neg c1]);rw[hr];have hcp:=qdJ x hs;rw[qcc x hne]at hcp;have w0:IntKind.i64.wrap ((n:Int)-1)=(n:Int)-1:=wr (by omega) (by omega);simp only[qa x]at hcp ⊢;simp[c1,lk,qb hb,hagn,w0];refine qv.count n (fun q ev O=>ev 1=.str a/\ev 5=.ptr H.length 0/\ev 6=.ptr (H.length+1) 0/\ev 7=.ptr (H.length+2) 0/\ev 8=I_ ((n:Int)-1-q)/\∃ t y,O=⟨H++.cells (qz x)::.cells [I_ 0,I_ 0,.str [],.sl 0 [] .nil]::.cells y::t,T⟩/\zt y (qz (Y7 a x n q))/\y.length=4/\y.all AV.atom=true) ?_ ?_ ?_
   . exact⟨by simp,by simp,by simp,by simp,by simp,[],_,by simp[qa x];rfl,by simp[Y7,zI,qa,zt,Leq],by simp,by simp⟩
   . rintro q ev O hq ⟨h1,h5,h6,h7,h8',t,y,rfl,hy,hyl,hya⟩;have hp:(q:Int)<=(n:Int)-1:=(by omega);have hi:((n:Int)-1-q)=((n-1-q:Nat):Int):=(by omega);have hv1:=Zj a (n-1-q) (by omega) ha;have w1:IntKind.i64.wrap ((n:Int)-1-q-1)=(n:Int)-1-(q+1:Nat):=by rw[wr (by omega) (by omega)];omega
     match y,hyl with
     | [y0,y1,y2,y3],_=>
      simp only[qsd,qto,qsp,qq1]at hya;simp[h5,h8',hp,qa x];refine qd.call hcp (by simp) ?_;simp[h8'];rw[zJ rfl];simp[zR,ZF,h1,h8'];rw[hi];simp only[qa (jS a _)]at hv1;refine qd.call hv1 rfl ?_;simp[h1,h5,h6,h7,h8',hya,w1];refine⟨_,_,⟨rfl,rfl⟩,?_,rfl,by simp⟩;have h1:zt [I_ 15,I_ 0,.str [],.sl 4 [[I_ x.op,I_ x.n,.str x.name,sE x.args],[I_ 1,I_ ((n-1-q:Nat):Int),.str [],.sl 0 [] .nil]] .tight] (qz (.mk 15 0 [] [x,zI ((n-1-q:Nat):Int)])):=by
       simp[qa (Ex.mk _ _ _ _),zI,qa x,zt,Leq,yL]
      have h2:=(qa (jS a (n-1-q))).symm;rw[Y7,qa (Ex.mk 22 _ _ _)];simp only[Ex.op_mk,Ex.n_mk,Ex.name_mk,Ex.args_mk,qqZ,qq9];simp only[zt,Leq,yL,and_true,true_and];rw[h2];right;exact⟨⟨.inr ⟨h1,zK _⟩,.inl rfl,.inr ⟨hy,zK _⟩⟩,.inl trivial⟩
   . rintro ev O ⟨h1,h5,h6,h7,h8',t,y,rfl,hy,hyl,hya⟩
     match y,hyl with
     | [y0,y1,y2,y3],_=>
      simp only[qsd,qto,qsp,qq1]at hya;have hneg:¬ (n:Int)<=(n:Int)-1:=(by omega);simp[h6,h7,h8',hneg,hya];exact hy
end
end
section
def qmF:List (Nat×Sch×List Nat):=[(6,.step 0 [7,6,5] (.step 1 [7,6,5,4,2] (.step 2 [7,6,5,4] (.step 3 [7,6,5,4] (.step 4 [7,6,5] (.step 5 [7,6] (.step 6 [7] (.step 7 [] (.done)))))))),[]),(15,.step 0 [7,6] (.step 1 [7,6,2] (.step 2 [7,6] (.step 3 [7,6,5,4] (.step 4 [7,6,5] (.step 5 [7,6] (.step 6 [7] (.step 7 [] (.done)))))))),[6])]
section
variable {F:yB}{b:Nat}{l:List Var}
theorem qjn (hag:qlI F l):∀ e,za e->Ko l e=false->∀ (H:List Blk) (T:List (Option Nat)),qar H b F ->
 qq Zp GG 189 [.map b,.agg (qz e)] ⟨H,T⟩ (fun r O'=>r=.agg (qz (scE l e))/\Ext ⟨H,T⟩ O'):=by
 refine Ex.ind fun e ih hn hu H T hm=>?_
 refine qq.up ?_;refine qq.kO ⟨false,qmF,[],[]⟩ qg Tryz.func189 rfl (by kernel_rfl) ?_;have hm0:=hm;obtain⟨es,clk,hb,hkv⟩:=hm;have lk:=fun (H':List Blk) (T':List (Option Nat)) (b:Nat) (s:Str) (ok:Bool) (h:H'[b]?=some (.map es clk))=>vD hkv (T:=T') h s ok
 have hnl:=qa2 hn;have h33:=W5 hn;have h8:=jy l e.name;by_cases c24:e.op=24
 . have hagn:=hag e.name (QN hn (.inr c24));have hs:=jV (jU hu) (.inr c24);have x:scE l e=JU e.name (qA l e.name-1):=(by rw[yT,if_pos c24]);rw[x];generalize qA l e.name=n at *;have hv0:=Zj e.name 0 (by omega) hnl;simp only[qa (jS _ _)]at hv0;simp[-getElem?_pos,qa e,c24];refine qd.call hv0 rfl ?_;simp[-getElem?_pos];refine qv.count (n-1) (fun q ev O=>ev 0=.map b/\ev 3=.ptr H.length 0/\ev 4=.ptr (H.length+1) 0/\ev 5=.ptr (H.length+2) 0/\ev 6=I_ ((q+1:Nat):Int)/\∃ t y,O=⟨H++.cells [I_ 24,I_ e.n,.str e.name,sE e.args]::.cells [I_ 0,I_ 0,.str [],.sl 0 [] .nil]::.cells y::t,T⟩/\zt y (qz (JU e.name q))/\y.length=4/\y.all AV.atom=true) ?_ ?_ ?_
   . exact⟨by simp,by simp,by simp,by simp,by simp,[],_,by simp;rfl,by simp[JU,qa (jS _ _),zt.refl],by simp,by simp⟩
   . rintro q ev O hq ⟨h0,h3,h4,h5,h6,t,y,rfl,hy,hyl,hya⟩
     match y,hyl with
     | [y0,y1,y2,y3],_=>
      simp only[qsd,qto,qsp,qq1]at hya;have hlt:((q+1:Nat):Int)<n:=(by omega);have hv1:=Zj e.name (q+1) (by omega) hnl;simp only[qa (jS _ _)]at hv1;have hb3:∀ t:List Blk,(H++t)[b]?=some (.map es clk):=fun t=>qb hb t
      generalize hQ:((q+1:Nat):Int)=Q at *;simp[-getElem?_pos,h0,h3,h6,lk,hb3,hagn,hlt];rw[zJ rfl];simp[-getElem?_pos,zR,ZF,h3,h5,h6];refine qd.call hv1 rfl ?_;have hw:IntKind.i64.wrap (Q+1)=((q+1+1:Nat):Int):=(by rw[wr (by omega) (by omega)];omega);simp[-getElem?_pos,zR,ZF,h0,h3,h4,h5,h6,hya,hw];refine⟨_,_,⟨rfl,rfl⟩,?_,rfl,by simp⟩;have h2:=(qa (jS e.name (q+1))).symm;rw[JU,qa (Ex.mk 7 _ _ _)];simp only[Ex.op_mk,Ex.n_mk,Ex.name_mk,Ex.args_mk,qqZ,qq9];simp only[zt,Leq,yL,and_true,true_and];rw[h2];right;exact⟨⟨.inr ⟨hy,zK _⟩,.inl rfl⟩,.inl trivial⟩
   . rintro ev O ⟨h0,h3,h4,h5,h6,t,y,rfl,hy,hyl,hya⟩
     match y,hyl with
     | [y0,y1,y2,y3],_=>
      simp only[qsd,qto,qsp,qq1]at hya;have hlt:¬ ((n-1+1:Nat):Int)<n:=(by omega);have hb3:∀ t:List Blk,(H++t)[b]?=some (.map es clk):=fun t=>qb hb t
      generalize hQ:((n-1+1:Nat):Int)=Q at *;simp[-getElem?_pos,h0,h3,h4,h5,h6,lk,hb3,hagn,hlt,hya];exact⟨_,by simpa[Leq] using hy,rfl,Ext.push⟩
 . have hsl:∀ a∈e.args,vG (scE l a):=fun a ha=>JW l a (hn.arg ha)
   have hco:∀ a∈e.args,(scE l a).op=1->0<=(scE l a).n:=fun a ha=>qfZ (hn.arg ha) (zj hu ha)
   have hne:∀ a∈e.args,NoE (scE l a):=fun a ha=>noE_sc l a (hn.arg ha)
   simp[-getElem?_pos,qa e,c24];refine qv.listR e.args (fun d ev O=>ev 0=.map b/\ev 3=.ptr H.length 0/\ev 4=.ptr (H.length+1) 0/\ev 33=sE e.args/\ev 34=I_ e.args.length/\ev 35=I_ d.length /\
    ∃ t T',O=⟨H++.cells [I_ e.op,I_ e.n,.str e.name,sE e.args]::.cells [I_ 0,I_ 0,.str [],.sl 0 [] .nil]::t,T'⟩/\T <+: T'/\yc T.length 4 qz T' (ev 7) (d.map (scE l))) ?_ ?_ ?_
   . exact⟨by simp,by simp,by simp,by simp,by simp,by simp,[],T,by simp,qr6,by simpa using yc.nil⟩
   . rintro d a r ev O R hR hd hx hlt ⟨h0,h3,h4,h33',h34,h35,t,T',rfl,hT,ho⟩;have ham:=qqW hx;have hi:=fun (t:List Blk) (T':List (Option Nat))=>ih a ham (hn.arg ham) (zj hu ham) (H++t) T' hm0.app
     simp only[qa a]at hi;generalize hv7:ev 7=v7 at *;simp[-getElem?_pos,h0,h33',h34,h35,hlt,hx,qa a];refine qd.acall (by simpa using hi _ _) ?_;rintro v ⟨H2,T2⟩ ⟨rfl,he⟩;obtain⟨t2,u2,he⟩:=he;simp only[St.mk.injEq]at he;obtain⟨rfl,rfl⟩:=he;have hT2:T <+: T'++u2:=hT.trans (qrY _ _);obtain⟨v',T3,happ,ho3,hT3⟩:=(ho.ext (qrY T' u2)).append (m:=[scE l a]) (tok:=.tight) hT2 D32 rfl D55 rfl (by omega) rfl (by decide) (by simp;omega) 4 (.inl rfl);simp only[qqZ,qq9,qa (scE l a)]at happ;simp[-getElem?_pos,hv7,qa (scE l a),happ,h35];refine hR _ _ ⟨h0,h3,h4,h33',h34,by simp;exact wr (by omega) (by omega),_,T3,by simp;rfl,hT3,?_⟩;simpa using ho3
   . rintro ev O ⟨h0,h3,h4,h33',h34,h35,t,T',rfl,hT,ho⟩;have hac:=ho.acells;have hat:=ho.atom;have hle:=ho.leq;have hhead:e.args≠[]->∀ i,i=0->∃ a,e.args[0]?=some a:=fun h _ _=>by
      cases hh:e.args with
      | nil=>exact absurd hh h
      | cons a r=>exact⟨a,by simp⟩
     by_cases c3:e.op=3
     . obtain⟨a,ha⟩:=YV hn c3;have ham:a∈e.args:=(by rw[ha];simp);have hch:=fun (t:List Blk) (T':List (Option Nat))=>qlh hag e.name (QN hn (.inl c3)) hnl (scE l a) (hsl a ham) (hne a ham) (hco a ham) (H++t) T' hm0.app
       have x:scE l e=jN e.name (scE l a) (qA l e.name):=(by rw[yT,if_neg c24,if_pos c3,ha];rfl);rw[x];generalize jN e.name (scE l a) (qA l e.name)=Y at hch;rw[ha]at ho h33' h34 h35;obtain⟨tk,hv7⟩:∃ tk,ev 7=.sl 4 [qz (scE l a)] tk:=by
        rcases ho with ⟨h,_⟩|⟨_,t,_,h,_⟩
        . simp at h
        . exact⟨_,by simpa using h⟩
       simp only[qa (scE l a)]at hv7 hch;simp[-getElem?_pos,h3,h34,h35,c3];rw[zJ rfl];simp[-getElem?_pos,zR,ZF,h0,h3,hv7];refine qd.acall (by simpa using hch _ _) ?_;rintro v O' ⟨rfl,t2,rfl⟩;simp[-getElem?_pos,zR,ZF,h4,qa Y];refine⟨_,?_,rfl,?_⟩
       . simp
       . exact Ext.pushT hT
     . have x:scE l e=.mk e.op e.n e.name (e.args.map (scE l)):=(by rw[yT,if_neg c24,if_neg c3]);rw[x];generalize e.args.map (scE l)=R at *;generalize hv7:ev 7=v7 at *;simp[-getElem?_pos,h3,h4,h34,h35,hv7,c3,hac,hat];refine⟨_,?_,rfl,Ext.pushT hT⟩;simpa[qa (Ex.mk _ _ _ _),Leq,zt] using hle
end
end
theorem ql3 {c:Cls}(h:ClsOk c){s:Str}(hz:Va (qc c) s=0):vZ (qf c) s=true:=by
 unfold Va at hz
 cases hF:qc c s with
 | some n=>
  rw[hF]at hz;obtain⟨f,hf,rfl,rfl⟩:=kF hF;have hk:=zk (h.fields f hf);have:f.size=0:=by
   have:=hk.s0;simp only at hz;split at hz
   . cases hz
   . omega
  exact (qkA h hk.name).2 ⟨f,hf,rfl,this⟩
 | none=>
  rw[hF]at hz;simp only at hz
  cases he:yb s with
  | none=>rw[he]at hz;cases hz
  | some p=>
   obtain⟨a,i⟩:=p;rw[he]at hz;simp only at hz;have hel:=jI.1 he
   cases hFa:qc c a with
   | none=>rw[hFa]at hz;cases hz
   | some n=>
    rw[hFa]at hz;obtain⟨f,hf,rfl,rfl⟩:=kF hFa;simp only at hz;rw[hel.2.2];refine (JB h hel.2.1 hel.1).2 ⟨f,hf,rfl,?_⟩;split at hz
    . cases hz
    . split at hz
      . cases hz
      . omega
theorem qly {c:Cls}(h:ClsOk c){s:Str}(hn:qO s=true)(hz:W4 (qc c) s=0):qA (qf c) s≠0:=by
 unfold W4 at hz;have hs:=Jh h hn
 cases hF:qc c s with
 | none=>rw[hF]at hz;cases hz
 | some n=>
  rw[hF]at hz hs;simp only[qtK]at hz hs;split at hz
  . cases hz
  . omega
theorem WF {c:Cls}(h:ClsOk c){e:Ex}(hn:za e)(hz:Ql (qc c) [] e=0):Ko (qf c) e=false:=by
 unfold Ko;rw[qrx];intro x hx hu;have h0:Qu (qc c) [] x=0:=qr.1 hz x hx;unfold Qu at h0;unfold unk1 at hu;have hnx:qw x=0:=hn x hx;obtain⟨_,_,_,_,_,_,hnm,_⟩:=zy hnx;by_cases k2:x.op=2
 . rw[if_pos k2,if_neg (by simp)]at h0;have:=ql3 h h0;have k3:¬ (x.op=3\/x.op=24):=(by omega);rw[this]at hu;simp[k3]at hu
 . rw[if_neg k2]at h0;by_cases k3:x.op=3\/x.op=24
   . rw[if_pos k3]at h0;have:=qly h (hnm k3) h0;simp[k2,this]at hu
   . simp[k2,k3]at hu
noncomputable def wP (F:yB)(l:List Var)(e:Ex):Ex:=if qE F l e=0 then scE l e else zEx
theorem qcm (e:Ex)(c:Cls)(hc:ClsOk c)(hwe:Wen e)(hsz:(pre e).length<=100000):PZ 116 [.agg (qz e),.agg (qn c)] (.tup [.agg (qz (wP (qc c) (qf c) e)),I_ (qE (qc c) (qf c) e)]):=by
 refine Pure.k qg Tryz.func116 rfl (by kernel_rfl) ?_;have hhg:=ZS e;have hva:=QB e hwe (by omega);have hr:qE (qc c) (qf c) e=if qM e≠0 then qM e else if Ql (qc c) [] e≠0 then Ql (qc c) [] e else if 400<(zx (qf c) e).1 then 2 else if qM (scE (qf c) e)≠0 then 2 else 0:=rfl
 have hX:wP (qc c) (qf c) e=if qE (qc c) (qf c) e=0 then scE (qf c) e else zEx:=rfl
 have hof:=fun O=>qpZ c (by have:=hc.nf;unfold Fits;omega) O
 have hag:qlI (qc c) (qf c):=fun a ha=>Jh hc ha
 generalize wP (qc c) (qf c) e=X at hX;generalize qE (qc c) (qf c) e=r at hr hX;simp only[qn]at hof;simp only[qa e]at hva;have hzr:∀ q:Int,r=q->q≠0->X=zEx:=fun q e1 e2=>by rw[hX,if_neg (by omega)]
 simp[qa e];refine qd.call hva (by simp) ?_;by_cases h1:qM e=0
 . rw[if_neg (by simp[h1])]at hr;have hn:=jK h1;simp[h1];refine qd.acall (by simpa using hof _) ?_;rintro v ⟨H1,T1⟩ ⟨mb,rfl,hm,he1⟩;have b0:H1[0]?=some (.cells (qz e)):=he1.at (by simp[qa e]);have b2:H1[2]?=some (.cells [I_ 0,I_ 0,.str [],.sl 0 [] .nil]):=he1.at (by simp);have hx:=JG (F:=qc c) (b:=mb) (H:=H1) (T:=T1) e [] hwe (by omega) hn (by simp) hm;simp only[qa e]at b0 hx;simp[b0];refine qd.acall (hx.leq (by simp[zt,Leq])) ?_;rintro v ⟨H2,T2⟩ ⟨rfl,he2⟩;have c0:=he2.at b0;have c2:=he2.at b2;have hm2:=hm.ext he2;have sc2:=fun (y:Blk) (t:List Blk)=>kL (y:=y) (t:=t) c2
   have sc2':∀ y:Blk,(H2.set 2 y)[2]?=some y:=fun y=>by have:=kL (y:=y) (t:=[]) c2;simpa using this
   by_cases h2:Ql (qc c) [] e=0
   . rw[if_neg (by simp[h2])]at hr;have hu:=WF hc hn h2;have hs:=qpk hag e hwe hn hu H2 T2 hm2;simp only[qa e]at hs;simp[h2,c0];refine qd.acall hs ?_;rintro v O' ⟨rfl,t3,rfl⟩;by_cases h3:400<(zx (qf c) e).1
     . rw[if_pos h3]at hr;have hx0:=hzr 2 hr (by decide);subst hr;subst hx0;simp[h3,qb c2,zV c2,sc2,zEx,qa (Ex.mk _ _ _ _)]
     . rw[if_neg h3]at hr;obtain⟨w1,w2,w3⟩:=qjo hn hu h3;have hsc:=fun (t:List Blk)=>qjn hag e hn hu (H2++t) T2 hm2.app
       have hvs:=QB (scE (qf c) e) w1 (by omega);simp only[qa e]at hsc;simp[h3,qb c0];refine qd.acall (hsc _) ?_;rintro v ⟨H4,T4⟩ ⟨rfl,he4⟩;have d2:=he4.at (qb c2 _);have sd2:=fun (y:Blk) (t:List Blk)=>kL (y:=y) (t:=t) d2
       generalize scE (qf c) e=Y at *;simp only[qa Y]at hvs;simp[qa Y];refine qd.call hvs (by simp) ?_;by_cases h4:qM Y=0
       . rw[if_neg (by simp[h4])]at hr;subst hr;rw[if_pos rfl]at hX;subst hX;simp[qa X,h4,qb d2,zV d2,sd2]
       . rw[if_pos h4]at hr;have hx0:=hzr 2 hr (by decide);subst hr;subst hx0;simp[h4,qb d2,zV d2,sd2,zEx,qa (Ex.mk _ _ _ _)]
   . rw[if_pos h2]at hr;have hx0:=hzr _ hr h2;subst hr;subst hx0;simp[h2,c2,sc2',zEx,qa (Ex.mk _ _ _ _)]
 . rw[if_pos h1]at hr;have hx0:=hzr _ hr h1;subst hr;subst hx0;simp[h1,zEx,qa (Ex.mk _ _ _ _)]
theorem Wf (k:Int)(d:List It)(x:It):qx k (d++[x])=if x.kind=k then qx k d++[x] else qx k d:=by
 unfold qx;rw[qrI];by_cases h:x.kind=k<;>simp[h]
theorem V3 {k:Int}{d r:List It}{x:It}(h:x.kind=k):qx k (d++x::r)=qx k d++x::qx k r:=by
 unfold qx;rw[qrI,qsg,if_pos (by simp[h])]
theorem Qd {F:yB}{l:List Var}{e:Ex}(h:qE F l e=0):qM e=0:=by
 unfold qE at h;split at h
 . exact h
 . rename_i hn;exact qrF.1 hn
def zExC:List AV:=[I_ 0,I_ 0,.str [],.sl 0 [] .nil]
def qjS:List (Nat×Sch×List Nat):=[(5,.step 0 [12,11,9,8,7,6,1] (.step 1 [12,11,9,8,7,6] (.step 2 [12,11,9,8,7,6,5,4,3] (.step 3 [12,11,9,8,7,6,5,4] (.step 4 [12,11,9,8,7,6,5] (.step 5 [12,11,9,8,7,6] (.step 6 [12,11,9,8,7] (.step 7 [12,11,9,8] (.step 8 [12,11] (.step 9 [12] (.step 10 [12,11] (.step 11 [12] (.step 12 [] (.done))))))))))))),[]),(8,.step 0 [11,10,9,8,7,5,2,1] (.step 1 [11,10,9,8,7,5,2] (.step 2 [11,10,9,8,7,5] (.step 3 [11,10,9,8,7,4] (.step 4 [11,10,9,8,7] (.step 5 [11,10,9,8,7] (.step 6 [11,10,9,8,7] (.step 7 [11,10,9,8] (.step 8 [9] (.step 10 [11] (.fork (.cons 9 (.step 11 [] (.done)) (.cons 11 (.step 9 [] (.done)) (.nil))))))))))))),[])]
theorem hard56 (c:Cls)(hcl:ClsOk c)(xs:List It)(hxs:∀ x∈xs,OutOk 7014 x)(hl:xs.length<=40000)(k:Int)(H:List Blk)(T:List (Option Nat))(B m:Nat)(vv sv dv gvv:AV)(sz:Nat)(tok:Abs.Tok)(hsz:sz=12\/xs=[])
 (hB:H[B]?=some (.cells [.str c.name,.str c.parent,sF c.fields,sB c.blocks,vv,.sl 0 [] .nil,sv,dv,gvv,.map m])) :
 qq Zp GG 56 [.ptr B 0,.sl sz (xs.map qK) tok,I_ k,.ptr B 5] ⟨H,T⟩ (fun r O'=>r=I_ (qh (fun y=>qE (qc c) (qf c) y.expr) (qx k xs))/\O'.T=T/\KpL [B] H O'.H/\(qh (fun y=>qE (qc c) (qf c) y.expr) (qx k xs)=0 ->
  ∃ ob ov,O'.H[B]?=some (.cells [.str c.name,.str c.parent,sF c.fields,sB c.blocks,vv,ov,sv,dv,gvv,.map m])/\zi ob 4 qz O'.H ov ((qx k xs).map fun y=>scE (qf c) y.expr)/\(qx k xs≠[]->H.length<=ob))):=by
 refine qq.kO ⟨true,qjS,[],[]⟩ qg Tryz.func56 rfl (by kernel_rfl) ?_;have hBl:=(qqV.1 hB).1;simp[-getElem?_pos];refine qv.listR xs (fun d ev O=>ev 0=.ptr B 0/\ev 2=I_ k/\ev 3=.ptr B 5/\ev 13=.sl sz (xs.map qK) tok/\ev 14=I_ xs.length/\ev 15=I_ d.length/\O.T=T/\KpL [B] H O.H/\(∀ y∈qx k d,qE (qc c) (qf c) y.expr=0) /\
  ∃ ob ov,O.H[B]?=some (.cells [.str c.name,.str c.parent,sF c.fields,sB c.blocks,vv,ov,sv,dv,gvv,.map m])/\zi ob 4 qz O.H ov ((qx k d).map fun y=>scE (qf c) y.expr)/\(qx k d≠[]->H.length<=ob)) ?_ ?_ ?_
 . exact⟨by simp,by simp,by simp,by simp,by simp,by simp,rfl,KpL.refl,by simp[qx],0,.sl 0 [] .nil,hB,.inl ⟨rfl,rfl⟩,by simp[qx]⟩
 . rintro d x r ev ⟨H1,T1⟩ Rl hRl hd hx hlt ⟨h0,h2,h3,h13,h14,h15,hT,hkp,hz,ob,ov,hc1,hov,hge⟩;obtain rfl:T=T1:=hT.symm;obtain rfl:sz=12:=hsz.resolve_right (by rintro rfl;simp at hlt);simp only at hc1 hov;have ho:=hxs x (qqW hx);have hdw:=wq (n:=d.length) (by omega);have hB1:=(qqV.1 hc1).1;have hkn:=Wf k d x;by_cases hkd:x.kind=k
   . rw[if_pos hkd]at hkn;have hsc:=qcm x.expr c hcl ho.wen (qrN ho.size (by omega));simp only[qn,qa x.expr]at hsc;have hXd:wP (qc c) (qf c) x.expr=if qE (qc c) (qf c) x.expr=0 then scE (qf c) x.expr else zEx:=rfl
     generalize hXX:wP (qc c) (qf c) x.expr=X at *;simp[-getElem?_pos,-Int.natCast_add,h2,h13,h14,h15,hlt,hx,ql x,qa x.expr,hkd];rw[zJ rfl];simp[-getElem?_pos,-Int.natCast_add,zR,h0,qb hc1];refine qd.call hsc (by simp) ?_;by_cases h6:qE (qc c) (qf c) x.expr=0
     . rw[if_pos h6]at hXd;subst hXd;have hn:=jK (Qd h6);have hcp:=qdK _ (JW (qf c) x.expr hn);have hzz:=zu (q:=fun y:It=>qE (qc c) (qf c) y.expr=0) hz h6;generalize hY:scE (qf c) x.expr=Y at *;simp only[qa Y]at hcp;simp[-getElem?_pos,-Int.natCast_add,h6,qa Y];obtain⟨H',cc,ha,hc',hcl',hput,hkeep,hlen⟩:=(hov.keep (H':=H1++[Blk.cells [I_ k,I_ x.expr.op,I_ x.expr.n,.str x.expr.name,sE x.expr.args,.str x.name,.str x.index,sW x.ws,sI x.items,sI x.els,sS x.before,sS x.after],.cells [I_ Y.op,I_ Y.n,.str Y.name,sE Y.args]]) fun y _ hy=>qb hy _).put (T:=T) (z:=zExC) (tok:=.tight) D32 rfl D55 rfl (by omega) rfl (by decide) zz rfl (by rw[qrv];have:(qx k d).length<=d.length:=qrr _ _;omega) Y;have hkl:(qx k d).length<=d.length:=qrr _ _;have hvl:∀ H1:List Blk,kw (Dof Zp) ⟨H1,T⟩ 32 ov=some (I_ ((qx k d).map fun y=>scE (qf c) y.expr).length):=fun H1=>by
        rcases hov with ⟨h,rfl⟩|⟨_,rfl,_⟩
        . rw[h];simp
        . simp
       have hac:=hov.acells;have hor:((qx k d).map fun y=>scE (qf c) y.expr)=[]\/∀ q,q<H.length->q≠ob:=by
        by_cases e:qx k d=[]
        . exact .inl (by rw[e];rfl)
        . right;intro q hq;have:=hge e;omega
       have hB':=hkeep B _ (qb hc1 _) (hor.imp id fun f=>f B hBl);have hmp:((qx k (d++[x])).map fun y=>scE (qf c) y.expr)=((qx k d).map fun y=>scE (qf c) y.expr)++[Y]:=(by rw[hkn,qrf,List.map_singleton,hY]);generalize hL:((qx k d).map fun y=>scE (qf c) y.expr)=L at *;have hLl:L.length<=40000:=(by rw[<- hL,qrv];omega);simp only[qqY,qq5,qrt,qsh]at ha hc' hlen;simp only[zExC]at ha;obtain⟨FL,hFL⟩:∃ FL,FL=(L++[Y]).flatMap qz:=⟨_,rfl⟩;rw[<- hFL]at hput;simp only[qa Y]at hput;have hHl:H.length<=H1.length:=hkp.1;have hcb:H1.length+(1+1)≠B:=(by omega);have hle:L.length*4+4<=cc.length:=(by omega);have hi1:(L.length:Int)<(L.length:Int)+1:=(by omega);have hi2:(L.length:Int)<((L.length+1:Nat):Int):=(by omega);have hbs:∀ y,(H'.set (H1.length+(1+1)) y)[B]?=H'[B]? := fun y=>by rw[qqX hcb]
       have hcs:∀ y,(H'.set B y)[H1.length+(1+1)]?=some (.cells cc):=fun y=>by rw[qqX (Ne.symm hcb)];exact hc'
       have hlB:B<H'.length:=(by omega);rw[zJ rfl];simp[-getElem?_pos,-Int.natCast_add,-kw,zR,h3,qb hc1];refine qd.call hcp (by simp) ?_;simp[-getElem?_pos,-Int.natCast_add,-kw,zR,hvl,ha,hB',hc',hle,hbs,hcs,hi2,hdw,h15];have hmine:∀ env,(env 0=.ptr B 0/\env 2=I_ k/\env 3=.ptr B 5/\env 13=.sl 12 (xs.map qK) tok/\env 14=I_ xs.length/\env 15=I_ (d.length+1:Nat))->Rl env ⟨(H'.set (H1.length+(1+1)) (.cells FL)).set B (.cells [.str c.name,.str c.parent,sF c.fields,sB c.blocks,vv,.ms (H1.length+(1+1)) 0 (L.length+1) 4,sv,dv,gvv,.map m]),T⟩:=by
        rintro env ⟨g0,g2,g3,g13,g14,g15⟩;refine hRl _ _ ⟨g0,g2,g3,g13,g14,by rw[g15];simp,rfl,⟨by simp;omega,fun q y hq hn=>?_⟩,by rw[hkn];exact hzz,H1.length+(1+1),_,by rw[qq4 (by simpa using hlB)],?_,fun _=>by omega⟩
        . have hql:=(qqV.1 hq).1;have hqB:q≠B:=(by simpa using hn);rw[qqX (Ne.symm hqB),qqX (by omega)];exact hkeep q y (qb (hkp.2 q y hq hn) _) (hor.imp id fun f=>f q hql)
        . rw[hmp];refine .inr ⟨by simp,by simp,?_⟩;show ((H'.set (H1.length+(1+1)) _).set B _)[H1.length+(1+1)]?=_;rw[qqX (Ne.symm hcb),qq4 (by omega),hFL]
       have hfin:∀ env O,(env 0=.ptr B 0/\env 2=I_ k/\env 3=.ptr B 5/\env 13=.sl 12 (xs.map qK) tok/\env 14=I_ xs.length/\env 15=I_ (d.length+1:Nat))->O=⟨(H'.set (H1.length+(1+1)) (.cells FL)).set B (.cells [.str c.name,.str c.parent,sF c.fields,sB c.blocks,vv,.ms (H1.length+(1+1)) 0 (L.length+1) 4,sv,dv,gvv,.map m]),T⟩->Rl env O:=fun env O he e=>by rw[e];exact hmine env he
       refine⟨hfin _ _ ?_ ?_,hfin _ _ ?_ ?_⟩
       . exact⟨h0,h2,h3,h13,h14,by simp[-Int.natCast_add]⟩
       . first | (rw[<- hput];rfl) | (rw[<- hput,qs6 _ _ hcb];rfl)
       . exact⟨h0,h2,h3,h13,h14,by simp[-Int.natCast_add]⟩
       . first | (rw[<- hput];rfl) | (rw[<- hput,qs6 _ _ hcb];rfl)
     . have hfe:qh (fun y=>qE (qc c) (qf c) y.expr) (qx k xs)=qE (qc c) (qf c) x.expr:=by
        rw[hd,V3 hkd];exact ja (f:=fun y:It=>qE (qc c) (qf c) y.expr) hz h6
       simp[-getElem?_pos,-Int.natCast_add,h6,hfe,qa X];exact hkp.trans KpL.app
   . rw[if_neg hkd]at hkn;simp[-getElem?_pos,-Int.natCast_add,h2,h13,h14,h15,hlt,hx,ql x,qa x.expr,hkd,hdw];refine hRl _ _ ⟨h0,h2,h3,h13,h14,by simp[-Int.natCast_add],rfl,hkp.trans KpL.app,by rw[hkn];exact hz,ob,ov,qb hc1 _,?_,by rw[hkn];exact hge⟩;rw[hkn];exact hov.keep fun y _ hy=>qb hy _
 . rintro ev ⟨H1,T1⟩ ⟨h0,h2,h3,h13,h14,h15,hT,hkp,hz,ob,ov,hc1,hov,hge⟩;obtain rfl:T=T1:=hT.symm;have hfz:qh (fun y=>qE (qc c) (qf c) y.expr) (qx k xs)=0:=qr.2 hz;simp[-getElem?_pos,-Int.natCast_add,h14,h15,hfz];exact⟨hkp,ob,ov,hc1,hov,hge⟩
theorem soft56 (c:Cls)(hcl:ClsOk c)(xs:List It)(hxs:∀ x∈xs,OutOk 7014 x)(hl:xs.length<=40000)(k:Int)(H:List Blk)(T:List (Option Nat))(B m:Nat)(vv hv dv gvv:AV)(sz:Nat)(tok:Abs.Tok)(hsz:sz=12\/xs=[])
 (hB:H[B]?=some (.cells [.str c.name,.str c.parent,sF c.fields,sB c.blocks,vv,hv,.sl 0 [] .nil,dv,gvv,.map m])) :
 qq Zp GG 56 [.ptr B 0,.sl sz (xs.map qK) tok,I_ k,.ptr B 6] ⟨H,T⟩ (fun r O'=>r=I_ (qh (fun y=>qE (qc c) (qf c) y.expr) (qx k xs))/\O'.T=T/\KpL [B] H O'.H/\(qh (fun y=>qE (qc c) (qf c) y.expr) (qx k xs)=0 ->
  ∃ ob ov,O'.H[B]?=some (.cells [.str c.name,.str c.parent,sF c.fields,sB c.blocks,vv,hv,ov,dv,gvv,.map m])/\zi ob 4 qz O'.H ov ((qx k xs).map fun y=>scE (qf c) y.expr)/\(qx k xs≠[]->H.length<=ob))):=by
 refine qq.kO ⟨true,qjS,[],[]⟩ qg Tryz.func56 rfl (by kernel_rfl) ?_;have hBl:=(qqV.1 hB).1;simp[-getElem?_pos];refine qv.listR xs (fun d ev O=>ev 0=.ptr B 0/\ev 2=I_ k/\ev 3=.ptr B 6/\ev 13=.sl sz (xs.map qK) tok/\ev 14=I_ xs.length/\ev 15=I_ d.length/\O.T=T/\KpL [B] H O.H/\(∀ y∈qx k d,qE (qc c) (qf c) y.expr=0) /\
  ∃ ob ov,O.H[B]?=some (.cells [.str c.name,.str c.parent,sF c.fields,sB c.blocks,vv,hv,ov,dv,gvv,.map m])/\zi ob 4 qz O.H ov ((qx k d).map fun y=>scE (qf c) y.expr)/\(qx k d≠[]->H.length<=ob)) ?_ ?_ ?_
 . exact⟨by simp,by simp,by simp,by simp,by simp,by simp,rfl,KpL.refl,by simp[qx],0,.sl 0 [] .nil,hB,.inl ⟨rfl,rfl⟩,by simp[qx]⟩
 . rintro d x r ev ⟨H1,T1⟩ Rl hRl hd hx hlt ⟨h0,h2,h3,h13,h14,h15,hT,hkp,hz,ob,ov,hc1,hov,hge⟩;obtain rfl:T=T1:=hT.symm;obtain rfl:sz=12:=hsz.resolve_right (by rintro rfl;simp at hlt);simp only at hc1 hov;have ho:=hxs x (qqW hx);have hdw:=wq (n:=d.length) (by omega);have hB1:=(qqV.1 hc1).1;have hkn:=Wf k d x;by_cases hkd:x.kind=k
   . rw[if_pos hkd]at hkn;have hsc:=qcm x.expr c hcl ho.wen (qrN ho.size (by omega));simp only[qn,qa x.expr]at hsc;have hXd:wP (qc c) (qf c) x.expr=if qE (qc c) (qf c) x.expr=0 then scE (qf c) x.expr else zEx:=rfl
     generalize hXX:wP (qc c) (qf c) x.expr=X at *;simp[-getElem?_pos,-Int.natCast_add,h2,h13,h14,h15,hlt,hx,ql x,qa x.expr,hkd];rw[zJ rfl];simp[-getElem?_pos,-Int.natCast_add,zR,h0,qb hc1];refine qd.call hsc (by simp) ?_;by_cases h6:qE (qc c) (qf c) x.expr=0
     . rw[if_pos h6]at hXd;subst hXd;have hn:=jK (Qd h6);have hcp:=qdK _ (JW (qf c) x.expr hn);have hzz:=zu (q:=fun y:It=>qE (qc c) (qf c) y.expr=0) hz h6;generalize hY:scE (qf c) x.expr=Y at *;simp only[qa Y]at hcp;simp[-getElem?_pos,-Int.natCast_add,h6,qa Y];obtain⟨H',cc,ha,hc',hcl',hput,hkeep,hlen⟩:=(hov.keep (H':=H1++[Blk.cells [I_ k,I_ x.expr.op,I_ x.expr.n,.str x.expr.name,sE x.expr.args,.str x.name,.str x.index,sW x.ws,sI x.items,sI x.els,sS x.before,sS x.after],.cells [I_ Y.op,I_ Y.n,.str Y.name,sE Y.args]]) fun y _ hy=>qb hy _).put (T:=T) (z:=zExC) (tok:=.tight) D32 rfl D55 rfl (by omega) rfl (by decide) zz rfl (by rw[qrv];have:(qx k d).length<=d.length:=qrr _ _;omega) Y;have hkl:(qx k d).length<=d.length:=qrr _ _;have hvl:∀ H1:List Blk,kw (Dof Zp) ⟨H1,T⟩ 32 ov=some (I_ ((qx k d).map fun y=>scE (qf c) y.expr).length):=fun H1=>by
        rcases hov with ⟨h,rfl⟩|⟨_,rfl,_⟩
        . rw[h];simp
        . simp
       have hac:=hov.acells;have hor:((qx k d).map fun y=>scE (qf c) y.expr)=[]\/∀ q,q<H.length->q≠ob:=by
        by_cases e:qx k d=[]
        . exact .inl (by rw[e];rfl)
        . right;intro q hq;have:=hge e;omega
       have hB':=hkeep B _ (qb hc1 _) (hor.imp id fun f=>f B hBl);have hmp:((qx k (d++[x])).map fun y=>scE (qf c) y.expr)=((qx k d).map fun y=>scE (qf c) y.expr)++[Y]:=(by rw[hkn,qrf,List.map_singleton,hY]);generalize hL:((qx k d).map fun y=>scE (qf c) y.expr)=L at *;have hLl:L.length<=40000:=(by rw[<- hL,qrv];omega);simp only[qqY,qq5,qrt,qsh]at ha hc' hlen;simp only[zExC]at ha;obtain⟨FL,hFL⟩:∃ FL,FL=(L++[Y]).flatMap qz:=⟨_,rfl⟩;rw[<- hFL]at hput;simp only[qa Y]at hput;have hHl:H.length<=H1.length:=hkp.1;have hcb:H1.length+(1+1)≠B:=(by omega);have hle:L.length*4+4<=cc.length:=(by omega);have hi1:(L.length:Int)<(L.length:Int)+1:=(by omega);have hi2:(L.length:Int)<((L.length+1:Nat):Int):=(by omega);have hbs:∀ y,(H'.set (H1.length+(1+1)) y)[B]?=H'[B]? := fun y=>by rw[qqX hcb]
       have hcs:∀ y,(H'.set B y)[H1.length+(1+1)]?=some (.cells cc):=fun y=>by rw[qqX (Ne.symm hcb)];exact hc'
       have hlB:B<H'.length:=(by omega);rw[zJ rfl];simp[-getElem?_pos,-Int.natCast_add,-kw,zR,h3,qb hc1];refine qd.call hcp (by simp) ?_;simp[-getElem?_pos,-Int.natCast_add,-kw,zR,hvl,ha,hB',hc',hle,hbs,hcs,hi2,hdw,h15];have hmine:∀ env,(env 0=.ptr B 0/\env 2=I_ k/\env 3=.ptr B 6/\env 13=.sl 12 (xs.map qK) tok/\env 14=I_ xs.length/\env 15=I_ (d.length+1:Nat))->Rl env ⟨(H'.set (H1.length+(1+1)) (.cells FL)).set B (.cells [.str c.name,.str c.parent,sF c.fields,sB c.blocks,vv,hv,.ms (H1.length+(1+1)) 0 (L.length+1) 4,dv,gvv,.map m]),T⟩:=by
        rintro env ⟨g0,g2,g3,g13,g14,g15⟩;refine hRl _ _ ⟨g0,g2,g3,g13,g14,by rw[g15];simp,rfl,⟨by simp;omega,fun q y hq hn=>?_⟩,by rw[hkn];exact hzz,H1.length+(1+1),_,by rw[qq4 (by simpa using hlB)],?_,fun _=>by omega⟩
        . have hql:=(qqV.1 hq).1;have hqB:q≠B:=(by simpa using hn);rw[qqX (Ne.symm hqB),qqX (by omega)];exact hkeep q y (qb (hkp.2 q y hq hn) _) (hor.imp id fun f=>f q hql)
        . rw[hmp];refine .inr ⟨by simp,by simp,?_⟩;show ((H'.set (H1.length+(1+1)) _).set B _)[H1.length+(1+1)]?=_;rw[qqX (Ne.symm hcb),qq4 (by omega),hFL]
       have hfin:∀ env O,(env 0=.ptr B 0/\env 2=I_ k/\env 3=.ptr B 6/\env 13=.sl 12 (xs.map qK) tok/\env 14=I_ xs.length/\env 15=I_ (d.length+1:Nat))->O=⟨(H'.set (H1.length+(1+1)) (.cells FL)).set B (.cells [.str c.name,.str c.parent,sF c.fields,sB c.blocks,vv,hv,.ms (H1.length+(1+1)) 0 (L.length+1) 4,dv,gvv,.map m]),T⟩->Rl env O:=fun env O he e=>by rw[e];exact hmine env he
       refine⟨hfin _ _ ?_ ?_,hfin _ _ ?_ ?_⟩
       . exact⟨h0,h2,h3,h13,h14,by simp[-Int.natCast_add]⟩
       . first | (rw[<- hput];rfl) | (rw[<- hput,qs6 _ _ hcb];rfl)
       . exact⟨h0,h2,h3,h13,h14,by simp[-Int.natCast_add]⟩
       . first | (rw[<- hput];rfl) | (rw[<- hput,qs6 _ _ hcb];rfl)
     . have hfe:qh (fun y=>qE (qc c) (qf c) y.expr) (qx k xs)=qE (qc c) (qf c) x.expr:=by
        rw[hd,V3 hkd];exact ja (f:=fun y:It=>qE (qc c) (qf c) y.expr) hz h6
       simp[-getElem?_pos,-Int.natCast_add,h6,hfe,qa X];exact hkp.trans KpL.app
   . rw[if_neg hkd]at hkn;simp[-getElem?_pos,-Int.natCast_add,h2,h13,h14,h15,hlt,hx,ql x,qa x.expr,hkd,hdw];refine hRl _ _ ⟨h0,h2,h3,h13,h14,by simp[-Int.natCast_add],rfl,hkp.trans KpL.app,by rw[hkn];exact hz,ob,ov,qb hc1 _,?_,by rw[hkn];exact hge⟩;rw[hkn];exact hov.keep fun y _ hy=>qb hy _
 . rintro ev ⟨H1,T1⟩ ⟨h0,h2,h3,h13,h14,h15,hT,hkp,hz,ob,ov,hc1,hov,hge⟩;obtain rfl:T=T1:=hT.symm;have hfz:qh (fun y=>qE (qc c) (qf c) y.expr) (qx k xs)=0:=qr.2 hz;simp[-getElem?_pos,-Int.natCast_add,h14,h15,hfz];exact⟨hkp,ob,ov,hc1,hov,hge⟩
section
structure Stp where
 f:FuncId
 a:List AV
 b:List AV
 r:Int
def Stp.v (s:Stp):AV:=.fn s.f s.a s.b
theorem qli (fs:List Stp)(hl:fs.length<=1000)(J:Nat->St->Prop)(K:St->Prop)(tok:Abs.Tok)
 (hs:∀ (i:Nat) (s:Stp) (O:St),fs[i]?=some s->J i O->qq Zp GG s.f (s.a++s.b) O (fun v O'=>v=I_ s.r/\K O'/\(s.r=0->J (i+1) O'))) (O:St) (h0:J 0 O) (hK:K O) :
 qq Zp GG 50 [.sl 1 (fs.map fun s=>[s.v]) tok] O (fun v O'=>v=I_ (qh Stp.r fs)/\K O'/\(qh Stp.r fs=0->J fs.length O')):=by
 refine qq.k qg Tryz.func50 rfl (by kernel_rfl) ?_;simp[-getElem?_pos];refine qv.listR fs (fun d ev O=>ev 6=.sl 1 (fs.map fun s=>[s.v]) tok/\ev 7=I_ fs.length/\ev 8=I_ d.length/\(∀ s∈d,s.r=0)/\K O/\J d.length O) ?_ ?_ ?_
 . exact⟨by simp,by simp,by simp,by simp,hK,h0⟩
 . rintro d s r ev O Rl hRl hd hx hlt ⟨h6,h7,h8,hz,hKd,hJ⟩;have hdw:=wq (n:=d.length) (by omega);have hc:=hs d.length s O hx hJ;simp[-getElem?_pos,h6,h7,h8,hlt,hx,Stp.v];refine qd.acall hc ?_;rintro v O' ⟨rfl,hK',hn⟩;by_cases hr:s.r=0
   . simp[-getElem?_pos,h8,hr,hdw];refine hRl _ _ ⟨h6,h7,by simp,zu hz hr,hK',by simpa using hn hr⟩
   . have hf:qh Stp.r fs=s.r:=(by rw[hd];exact ja hz hr);simp[-getElem?_pos,h8,hr,hf];exact hK'
 . rintro ev O ⟨h6,h7,h8,hz,hKd,hJ⟩;have hf:qh Stp.r fs=0:=qr.2 hz;simp[-getElem?_pos,h7,h8,hf];exact⟨hKd,hJ⟩
section
variable {H:List Blk}{T:List (Option Nat)}{B bp bs bx:Nat}
def qpI:List (Nat×Sch×List Nat):=[(1,.step 0 [7,6] (.step 1 [7,6] (.step 2 [7,6,5,4,3] (.step 3 [7,6,5,4] (.step 4 [7,6,5] (.step 5 [7,6] (.step 6 [7] (.step 7 [] (.done)))))))),[6])]
def qpH:List (Nat×Sch×List Nat):=[(1,.step 0 [7,6] (.step 1 [7,6] (.step 2 [7,6,5,4,3] (.step 3 [7,6,5,4] (.step 4 [7,6,5] (.step 5 [7,6] (.step 6 [7] (.step 7 [] (.done)))))))),[6])]
theorem step51 {S:AV}{Q:AV->St->Prop}(e1:H[bp]?=some (.cells [.ptr B 0]))(e2:H[bs]?=some (.cells [S]))(hS:acells S=some [S])(hSa:Qp (some false) [S]=some S)(h:qq Zp GG 52 [.ptr B 0,S] ⟨H,T⟩ (fun v O'=>∃ n,v=I_ n/\Q v O')):qq Zp GG 51 [.ptr bp 0,.ptr bs 0] ⟨H,T⟩ Q:=by
 refine qq.k qg Tryz.func51 rfl (by kernel_rfl) ?_;simp[-getElem?_pos,e1,e2];refine qd.acall h ?_;rintro v O' ⟨n,rfl,hq⟩;simp[-getElem?_pos];exact hq
theorem step55 {S:AV}{Q:AV->St->Prop}(e1:H[bp]?=some (.cells [.ptr B 0]))(e2:H[bs]?=some (.cells [S]))(hSa:Qp (some false) [S]=some S)(h:qq Zp GG 56 [.ptr B 0,S,I_ 1,.ptr B 5] ⟨H,T⟩ (fun v O'=>∃ n,v=I_ n/\Q v O')):qq Zp GG 55 [.ptr bp 0,.ptr bs 0] ⟨H,T⟩ Q:=by
 refine qq.kO ⟨true,qpI,[],[]⟩ qg Tryz.func55 rfl (by kernel_rfl) ?_;simp[-getElem?_pos];rw[zJ rfl];simp[-getElem?_pos,zR,e1,e2];refine qd.acall h ?_;rintro v O' ⟨n,rfl,hq⟩;simp[-getElem?_pos,zR];exact hq
theorem step57 {S:AV}{Q:AV->St->Prop}(e1:H[bp]?=some (.cells [.ptr B 0]))(e2:H[bs]?=some (.cells [S]))(hSa:Qp (some false) [S]=some S)(h:qq Zp GG 56 [.ptr B 0,S,I_ 2,.ptr B 6] ⟨H,T⟩ (fun v O'=>∃ n,v=I_ n/\Q v O')):qq Zp GG 57 [.ptr bp 0,.ptr bs 0] ⟨H,T⟩ Q:=by
 refine qq.kO ⟨true,qpH,[],[]⟩ qg Tryz.func57 rfl (by kernel_rfl) ?_;simp[-getElem?_pos];rw[zJ rfl];simp[-getElem?_pos,zR,e1,e2];refine qd.acall h ?_;rintro v O' ⟨n,rfl,hq⟩;simp[-getElem?_pos,zR];exact hq
theorem frz_gv {k:Nat}{p:GP}(h:p.1=1/\∃ t n,p.2.2=.chain t n):frz H (k+1) (gv p)=sN p.2.1:=by
 obtain⟨z,l,t⟩:=p;obtain⟨h1,a,n,h2⟩:=h;simp only at h1 h2;subst h1 h2;have hr:=kQ (H:=H) (en:=qY) (fun x=>by simp[qY]) (n:=k) l;unfold gv;rw[Abs.frz,if_neg (by simp[zg])];simp only[hr];rw[if_pos (by rw[qsA,qq7];intro x _;simp[qY])]
theorem GAt.frz {gb:Nat}{v:AV}{gs:List (List Int)}(h:GAt gb H v gs)(k:Nat):Abs.frz H (k+2) v=sK gs:=by
 obtain⟨ps,tl,rfl,hb,rfl,hp⟩:=h;have hfm:∀ ps:List GP,ps.map gv=ps.flatMap fun p=>[gv p]:=fun ps=>by
  induction ps with
  | nil=>rfl
  | cons a r ih=>rw[qqZ,qrm,ih];rfl
 have hch:vE 1 ps.length (ps.map gv++tl)=ps.map fun p=>[gv p]:=by
  rw[hfm];exact Go.Abs.chunk_flat (sz:=1) (en:=fun p=>[gv p]) (fun _=>rfl) ps tl
 have hrw:(ps.map fun p=>[gv p]).map (·.map (Abs.frz H (k+1)))=(ps.map fun p=>p.2.1).map zZ:=by
  rw[qr2,qr2];refine qr7 fun p hpm=>?_
  simp only[Function.comp,qqZ,qq9,frz_gv (hp p hpm)];rfl
 rw[Abs.frz,if_neg (by simp[zg])];simp only[hb,qsv,hch,hrw];rw[if_pos ⟨by simp,by rw[qsA,qq7];intro x _;simp⟩]
theorem qh9 {α:Type}{sz:Nat}{en:α->List AV}(hn:∀ x,qu (en x)=true)(ha:∀ x,(en x).all AV.atom=true)(H:List Blk)(k:Nat)(l:List α)(tok:Abs.Tok):zg (Abs.frz H (k+1) (.sl sz (l.map en) tok))=true:=by
 have hr:=kQ (H:=H) hn (n:=k) l;by_cases hno:Abs.zg (.sl sz (l.map en) tok)=true
 . rw[qP hno];exact hno
 . have hall:((l.map en).map (·.map (Abs.frz H k))).all (·.all AV.atom)=true:=by
    rw[hr,qsA,qq7];intro x _;exact ha x
   rw[Abs.frz,if_neg hno];simp only[if_pos hall];rw[hr];simpa using qS hn l
theorem qgG {vb hb sb gb:Nat}{vv hv sv dv gvv:AV}{p:Problem}(hV:zi vb 4 qo H vv p.vars)(hH:zi hb 4 qz H hv p.hard)(hS:zi sb 4 qz H sv p.soft)(hD:∃ sz tok,dv=.sl sz (p.dists.map qG) tok/\(sz=2\/p.dists=[]))(hG:GAt gb H gvv p.groups)(k:Nat) :
 zg (frz H (k+3) (.agg [vv,hv,sv,dv,gvv]))=true/\Leq (frz H (k+3) (.agg [vv,hv,sv,dv,gvv])) (.agg (yM p)):=by
 have a1:=hV.frz (fun x=>by simp) (fun x=>by simp) (fun x=>by simp) (k+1);have a2:=hH.frz zz (fun x=>by simp[qa]) (fun x=>by simp[qa]) (k+1);have a3:=hS.frz zz (fun x=>by simp[qa]) (fun x=>by simp[qa]) (k+1);have n1:=hV.frzNo (fun x=>by simp) (fun x=>by simp) (fun x=>by simp) (k+1);have n2:=hH.frzNo zz (fun x=>by simp[qa]) (fun x=>by simp[qa]) (k+1);have n3:=hS.frzNo zz (fun x=>by simp[qa]) (fun x=>by simp[qa]) (k+1);obtain⟨sz,tok,rfl,hsz⟩:=hD;have a4:=qbn (sz:=sz) (sz':=2) (en:=qG) (fun x=>by simp) (fun x=>by simp) H (k+1) p.dists tok hsz;have n4:=qh9 (sz:=sz) (en:=qG) (fun x=>by simp) (fun x=>by simp) H (k+1) p.dists tok;have a5:=hG.frz k;rw[qgH];simp only[qqZ,qq9,yM];rw[a5];refine⟨?_,?_⟩
 . simp only[zg,qu,n1,n2,n3,n4,qsp,qsi];simp
 . simp only[Leq,zt,and_true];exact⟨a1,a2,a3,a4,by simp⟩
theorem step58 {vb hb sb gb:Nat}{a0 a1 a2 a3 a9 vv hv sv dv gvv:AV}{p:Problem}(hq:VQ p)(e1:H[bp]?=some (.cells [.ptr B 0]))(e2:H[B]?=some (.cells [a0,a1,a2,a3,vv,hv,sv,dv,gvv,a9]))
 (hV:zi vb 4 qo H vv p.vars) (hH:zi hb 4 qz H hv p.hard) (hS:zi sb 4 qz H sv p.soft) (hD:∃ sz tok,dv=.sl sz (p.dists.map qG) tok/\(sz=2\/p.dists=[])) (hG:GAt gb H gvv p.groups) :
 qq Zp GG 58 [.ptr bp 0] ⟨H,T⟩ (fun v O'=>v=I_ (zT p)/\O'=⟨H,T⟩):=by
 refine qq.k qg Tryz.func58 rfl (by kernel_rfl) ?_;have hf:=(qgG hV hH hS hD hG 5).2;have d1:acells dv=some [dv]:=by obtain⟨sz,tok,rfl,_⟩:=hD;rfl
 have d2:acells gvv=some [gvv]:=by obtain⟨ps,tl,rfl,_⟩:=hG;rfl
 simp[-getElem?_pos,e1,e2];refine qd.lent (Ja p hq) rfl (by simp only[qqZ,qq9,zt,and_true];exact hf) ?_;simp[-getElem?_pos]
end
end
section
attribute [local simp] acells fin zh ze pl1 plain pl2 AV.atom
def wX (E:List (Int×Int)):List (Int×Int):=E.map fun p=>(p.2,p.1)
theorem wL {E:List (Int×Int)}{a b:Int}:(a,b)∈wX E↔(b,a)∈E:=by
 unfold wX;rw[qq3];constructor
 . rintro⟨⟨x,y⟩,h,e⟩;simp only[Prod.mk.injEq]at e;obtain⟨rfl,rfl⟩:=e;exact h
 . exact fun h=>⟨(b,a),h,rfl⟩
section
variable {E E':List (Int×Int)}
theorem jT (h:∀ e,e∈E↔e∈E'):∀ (f:Nat) (i:Int),qJ E f i=qJ E' f i
 | 0,i=>rfl
 | f+1,i=>by
  refine qtV (wT.2 fun e he h1=>?_) (wT.2 fun e he h1=>?_)
  . rw[jT h f e.2,<- h1];exact wU ((h e).1 he)
  . rw[<- jT h f e.2,<- h1];exact wU ((h e).2 he)
theorem qh3 (h:∀ e,e∈E↔e∈E')(i:Int):yP E i=yP E' i:=by
 unfold yP;rw[qr5,qq2,qq2];exact⟨fun ⟨e,he,hq⟩=>⟨e,(h e).1 he,hq⟩,fun ⟨e,he,hq⟩=>⟨e,(h e).2 he,hq⟩⟩
theorem W8 (h:∀ e,e∈E↔e∈E')(n:Nat):acyc E n=acyc E' n:=by
 unfold acyc;rw[qr5,qq7,qq7];exact⟨fun q e he=>by rw[<- jT h,<- jT h];exact q e ((h e).2 he),fun q e he=>by rw[jT h,jT h];exact q e ((h e).1 he)⟩
theorem qb9 (h:∀ e,e∈E↔e∈E')(n:Nat):JT E n=JT E' n :=
 qtV (QC fun e he=>by rw[jT h];exact vU n e.1) (QC fun e he=>by rw[<- jT h];exact vU n e.1)
theorem qeU (h:∀ e,e∈E↔e∈E')(n:Nat)(i:Int):yk E n i=yk E' n i:=by
 unfold yk;rw[qh3 h,jT h,qb9 h]
theorem YB (h:∀ e,e∈E↔e∈E')(V:List Var):zB V E=zB V E':=by
 unfold zB;simp only[qeU h,qb9 h]
theorem qh2 (i:Int):yP (wX E) i=yP E i:=by
 unfold yP wX;rw[List.any_map];congr 1;funext e;show (e.2==i||e.1==i)=_;exact Bool.or_comm _ _
theorem Z2.pathN {lv:Int->Int}(h:Z2 E lv){N:Nat}(hb:Below E N):∀ (f n:Nat) (i:Int),0<=i->i<N->n<=qJ E f i->∃ p:List Int,p.length=n+1/\p.Nodup/\∀ x∈p,lv x<=lv i/\0<=x/\x<N
 | _,0,i,h0,h1,_=>⟨[i],rfl,by simp,fun x hx=>by
  have:x=i:=by simpa using hx
  subst this;exact⟨qso _,h0,h1⟩⟩
 | 0,n+1,i,_,_,hn=>by simp[qJ]at hn
 | f+1,n+1,i,h0,h1,hn=>by
  obtain⟨e,he,rfl,h2⟩:=vV hn;obtain⟨_,b1,b2⟩:=hb e he;obtain⟨p,h3,h4,h5⟩:=Z2.pathN h hb f n e.2 b1 b2 h2;have hlt:=h.2 e he;refine⟨e.1::p,by simp[h3],qr4.2 ⟨fun hm=>?_,h4⟩,fun x hx=>?_⟩
  . have:=(h5 _ hm).1;omega
  . rcases qra.1 hx with rfl|hx
    . exact⟨qso _,h0,h1⟩
    . obtain⟨a,b⟩:=h5 x hx;exact⟨by omega,b⟩
theorem qn0 {N:Nat}(ha:acyc E N=true)(hb:Below E N){i:Int}(h0:0<=i)(h1:i<N):qJ E N i<N:=by
 have hf:Z2 E fun j=>(qJ E N j:Int):=⟨fun j=>Int.natCast_nonneg _,fun e he=>by have:=qfF ha he;show ((qJ E N e.2:Nat):Int)<((qJ E N e.1:Nat):Int);omega⟩
 obtain⟨p,h2,h3,h4⟩:=hf.pathN hb N (qJ E N i) i h0 h1 (qrn _);have:=Qg N p h3 fun x hx=>(h4 x hx).2
 omega
theorem Rnd.lev {N r:Nat}{lv:Int->Int}(h:Rnd E N r lv)(hr:N<=r)(ha:acyc E N=true)(i:Int):lv i=qJ E N i:=by
 have h1:=h.lo i;have h2:=h.hi ha i;have h3:=YH (E:=E) hr i;omega
theorem Rnd.cycle {N:Nat}{lv:Int->Int}(h:Rnd E N (N+1) lv)(ha:acyc E N=false)(hb:Below E N):∃ i:Int,0<=i/\i<N/\(N:Int)<lv i:=by
 obtain⟨e,he,hle⟩:∃ e∈E,¬ qJ E N e.2<qJ E N e.1:=by
  apply Classical.byContradiction;intro hn;have:acyc E N=true:=by
   unfold acyc;rw[qq7];intro e he;apply decide_eq_true;apply Classical.byContradiction;intro h2;exact hn ⟨e,he,h2⟩
  rw[ha]at this;cases this
 have h1:=wU (E:=E) (f:=N) he;have h2:=Yj (E:=E) N e.1 (by omega);have h3:=h.lo e.1;obtain⟨⟨b1,b2⟩,_⟩:=hb e he;exact⟨e.1,b1,b2,by omega⟩
end
def tab (n:Nat)(lv:Int->Int):List AV:=(List.range n).map fun (i:Nat)=>AV.int .i64 (lv (i:Int))
theorem yD (n:Nat)(lv:Int->Int):(tab n lv).length=n:=by simp[tab]
theorem Yt {n i:Nat}(lv:Int->Int)(h:i<n):(tab n lv)[i]?=some (I_ (lv (i:Int))):=by simp[tab,h]
theorem qem {n k:Nat}(lv:Int->Int)(h:k<n)(v:Int):(tab n lv).set k (I_ v)=tab n fun j=>if j=(k:Int) then v else lv j:=by
 apply qr1;intro i;by_cases hi:i<n
 . rw[Yt _ hi];by_cases hk:k=i
   . subst hk;rw[qq4 (by rw[yD];exact h)];simp
   . rw[qqX hk,Yt _ hi,if_neg (by omega)]
 . rw[qry (by rw[qsk,yD];omega),qry (by rw[yD];omega)]
theorem Jc {n:Nat}{lv lv':Int->Int}(h:∀ i:Nat,i<n->lv (i:Int)=lv' (i:Int)):tab n lv=tab n lv':=by
 unfold tab;refine qr7 fun i hi=>?_
 rw[h i (qrC.1 hi)]
theorem ql9 (n:Nat):List.replicate n (AV.int .i64 0)=tab n fun _=>0:=by
 unfold tab;rw[List.map_const',qtf]
def YQ (E:List (Int×Int))(N i:Nat):Nat:=((List.range i).map fun (k:Nat)=>qJ E N (k:Int)).foldl max 0
theorem J6 (E:List (Int×Int))(N i:Nat):YQ E N (i+1)=max (YQ E N i) (qJ E N (i:Int)):=by
 unfold YQ;rw[qrX,qrf,qsL];rfl
theorem qgq {E:List (Int×Int)}{N k:Nat}:∀ i:Nat,(∀ j:Nat,j<i->qJ E N (j:Int)<=k)->YQ E N i<=k
 | 0,_=>by simp[YQ]
 | i+1,h=>by
  rw[J6];have h1:=qgq i fun j hj=>h j (by omega)
  have h2:=h i (by omega);omega
theorem qgr {E:List (Int×Int)}{N:Nat}:∀ (i j:Nat),j<i->qJ E N (j:Int)<=YQ E N i
 | 0,j,h=>by omega
 | i+1,j,h=>by
  rw[J6];by_cases hj:j=i
  . subst hj;omega
  . have:=qgr (E:=E) (N:=N) i j (by omega);omega
theorem qko {E:List (Int×Int)}{N:Nat}(hb:Below E N):YQ E N N=JT E N:=by
 refine qtV (qgq N fun j _=>vU N _) (QC fun e he=>?_);obtain⟨⟨b1,b2⟩,_⟩:=hb e he;obtain⟨k,hk⟩:=qrj b1;rw[hk];exact qgr N k (by omega)
def qd5 (V:List Var)(E:List (Int×Int))(m:Nat)(j:Int):Int:=if j<m/\zW V j=true/\yP E j=false then -1 else qJ E V.length j
theorem qm7 {V:List Var}{E:List (Int×Int)}{i k:Nat}(hi:i<V.length)(hr:zW V (i:Int)=true) :
 (qd5 V E V.length (i:Int)=k\/(qd5 V E V.length (i:Int)<0/\k=JT E V.length))↔yk E V.length (i:Int)=k:=by
 unfold qd5 yk
 cases h:yP E (i:Int) with
 | true=>
  rw[if_neg (by simp),if_pos rfl];omega
 | false=>
  rw[if_pos ⟨by omega,hr,rfl⟩,if_neg (by simp)];omega
theorem qnv {H:List Blk}{n:Nat}{c:List AV}:Abs.frz H (n+1) (.tup c)=.tup (c.map (Abs.frz H n)):=by
 by_cases h:zg (.tup c)=true
 . rw[qP h];congr 1;simp only[zg]at h
   induction c with
   | nil=>rfl
   | cons a r ih=>
    simp only[qu,qq1]at h;rw[qqZ,qP h.1,<- ih h.2]
 . rw[Abs.frz,if_neg h]
theorem qbu {H:List Blk}{v r:AV}{n:Int}(h1:zg (Abs.frz H 7 v)=true)(h2:Leq (Abs.frz H 7 v) r):zg (Abs.frz H 8 (.tup [v,I_ n]))=true/\Leq (Abs.frz H 8 (.tup [v,I_ n])) (.tup [r,I_ n]):=by
 rw[qnv];have:Abs.frz H 7 (I_ n)=I_ n:=qP rfl;simp[zg,qu,h1,this,Leq,zt,h2]
theorem Wz {H:List Blk}{n:Int}(sz:Nat):zg (Abs.frz H 8 (.tup [.sl 0 [] .nil,I_ n]))=true/\Leq (Abs.frz H 8 (.tup [.sl 0 [] .nil,I_ n])) (.tup [.sl sz [] .none,I_ n]) :=
 qbu (by rw[qP (by simp)];simp) (by rw[qP (by simp)];exact Leq.slnil)
end
end Go.Proofs.YtpgcmnabljandaaGreatDoor
end
