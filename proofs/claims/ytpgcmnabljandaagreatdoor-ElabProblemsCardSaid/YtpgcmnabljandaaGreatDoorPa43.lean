/- A part of the proof. -/
import Derived.Test.YtpgcmnabljandaaGreatDoorPa41
import Derived.Test.YtpgcmnabljandaaGreatDoorPa42
set_option linter.unusedVariables false
set_option linter.unusedSimpArgs false
set_option maxHeartbeats 16000000
set_option maxRecDepth 100000
set_option linter.defProp false
section
namespace Go.Proofs.YtpgcmnabljandaaGreatDoor
open Go Go.Abs
section
attribute [local simp] acells fin zh ze pl1 plain pl2 AV.atom
def kV (E:List (Int×Int))(i:Int):List Int:=(E.filter fun e=>e.1==i).map (·.2)
structure Rec where
 key:Int
 tok:Nat
 stamp:Nat
def vA (E:List (Int×Int))(r:Rec):AV×AV×Nat:=(.int .i64 r.key,.sl 1 ((kV E r.key).map qY) (.chain r.tok (kV E r.key).length),r.stamp)
structure AfterOk (T:List (Option Nat))(n:Nat)(E:List (Int×Int))(R:List Rec)(clk:Nat):Prop where
 keys:(R.map Rec.key).Nodup
 toks:(R.map Rec.tok).Nodup
 stamps:(R.map Rec.stamp).Nodup
 lt:∀ r∈R,r.stamp<clk
 cover:∀ i,kV E i≠[]↔i∈R.map Rec.key
 tok:∀ r∈R,n<=r.tok/\T[r.tok]?=some (some (kV E r.key).length)
theorem AfterOk.nil {T:List (Option Nat)}{n clk:Nat}:AfterOk T n [] [] clk:=⟨by simp,by simp,by simp,by simp,by simp[kV],by simp⟩
theorem yR (E:List (Int×Int))(i k j:Int):kV (E++[(i,k)]) j=if i=j then kV E j++[k] else kV E j:=by
 unfold kV;rw[qrI];by_cases h:i=j
 . simp[h]
 . have:(i==j)=false:=by simpa using h
   simp[h,this]
theorem qdo {E:List (Int×Int)}{i:Int}:∀ (R:List Rec) (s:Nat),(∀ r∈R,r.key≠i)->wo (.int .i64 i) (R.map (vA E)) s=some none
 | [],s,_=>rfl
 | r::l,s,h=>by
  have h0:(i==r.key)=false:=by have:=h r (by simp);simpa using fun e:i=r.key=>this e.symm
  have ih:=qdo (E:=E) l (s+1) fun x hx=>h x (by simp[hx])
  simp only[qqZ,vA,wo,Qv,if_true,h0];exact ih
theorem qdn {E:List (Int×Int)}{i:Int}:∀ (R:List Rec) (s:Nat),(R.map Rec.key).Nodup->∀ r∈R,r.key=i->∃ j,wo (.int .i64 i) (R.map (vA E)) s=some (some (s+j,(vA E r).2.1))/\R[j]?=some r
 | [],s,_,r,h,_=>by cases h
 | a::l,s,hn,r,h,e=>by
  simp only[qqZ,qr4]at hn;rcases qra.1 h with rfl|h
  . refine⟨0,?_,by simp⟩;have h0:(i==r.key)=true:=(by simp[e]);simp only[qqZ,vA,wo,Qv,if_true,h0,qsz]
  . have hne:¬ i=a.key:=fun h2=>hn.1 (qq3.2 ⟨r,h,by rw[e,h2]⟩)
    have h0:(i==a.key)=false:=(by simpa using hne);obtain⟨j,h1,h2⟩:=qdn (E:=E) l (s+1) hn.2 r h e;refine⟨j+1,?_,by simpa using h2⟩;simp only[vA]at h1;simp only[qqZ,vA,wo,Qv,if_true,h0];rw[show s+(j+1)=s+1+j by omega];exact h1
theorem Ju {α β:Type}{f:α->β}{l:List α}(h:(l.map f).Nodup){j k:Nat}{a b:α}(ha:l[j]?=some a)(hb:l[k]?=some b)(e:f a=f b):j=k:=by
 obtain⟨hj,ha'⟩:=qqV.1 ha;obtain⟨hk,hb'⟩:=qqV.1 hb;refine (List.getElem_inj (xs:=l.map f) (h₀:=by simpa using hj) (h₁:=by simpa using hk) h).1 ?_;simp[ha',hb',e]
theorem AfterOk.add {T0 T:List (Option Nat)}{E:List (Int×Int)}{R:List Rec}{clk:Nat}(h:AfterOk T T0.length E R clk)(hT:T0 <+: T)(hlen:∀ i,(kV E i).length<=1000000000)(i k:Int){D:Nat->Option TI}
 (hD86:∃ x,D 86=some x/\x.d=.map 3 28) (hD3:∃ x,D 3=some x/\x.d=.int .i64/\x.size=1/\x.zero.length=1/\x.bytes<=65536) (hD28:∃ x,D 28=some x/\x.d=.sl 3/\x.zv=.sl 0 [] .nil) :
 ∃ v v' T' R' clk',(∀ (H:List Blk) (T1:List (Option Nat)) (m:Nat),H[m]?=some (.map (R.map (vA E)) clk)->yj D ⟨H,T1⟩ 86 (.map m) (.int .i64 i) false=some v) /\
  (∀ H,qt D ⟨H,T⟩ 28 v (.sl 1 [[.int .i64 k]] .tight)=some (v',⟨H,T'⟩)) /\
  (∀ (H:List Blk) (T1:List (Option Nat)) (m:Nat),H[m]?=some (.map (R.map (vA E)) clk)->zQ D ⟨H,T1⟩ 86 (.map m) (.int .i64 i) v'=some ⟨H.set m (.map (R'.map (vA (E++[(i,k)]))) clk'),T1⟩) /\
  AfterOk T' T0.length (E++[(i,k)]) R' clk'/\T0 <+: T'/\T.length<=T'.length/\∀ td,td<T.length->(∀ r∈R,r.tok≠td)->T'[td]?=T[td]?/\∀ r∈R',r.tok≠td:=by
 obtain⟨x86,e86,d86⟩:=hD86;obtain⟨x3,e3,d3,s3,z3,b3⟩:=hD3;obtain⟨x28,e28,d28,z28⟩:=hD28;by_cases hk:i∈R.map Rec.key
 . obtain⟨r,hr,rfl⟩:=qq3.1 hk;obtain⟨j,hf,hj⟩:=qdn (E:=E) R 0 h.keys r hr rfl;rw[qsh]at hf;obtain⟨ht1,ht2⟩:=h.tok r hr;have hne:=(h.cover r.key).2 hk;have hl:=hlen r.key;have hsr:=yR E r.key k r.key;rw[if_pos rfl]at hsr;have hl1:(kV E r.key).length+1<=1073741824:=(by omega);refine⟨(vA E r).2.1,.sl 1 ((kV E r.key++[k]).map qY) (.chain r.tok ((kV E r.key).length+1)),T.set r.tok (some ((kV E r.key).length+1)),R,clk,?_,?_,?_,?_,?_,by simp,fun td htd hntd=>⟨?_,hntd⟩⟩
   . intro H T1 m hm;simp only[yj,e86,d86,jc,e3,d3,hm,hf];simp
   . intro H;simp only[vA];simp[qt,e28,d28,e3,s3,z3,b3,zD,ht2,hl1]
   . intro H T1 m hm;simp only[zQ,e86,d86,jc,e3,d3,hm,hf];simp only[qtv,if_true,Option.some.injEq,St.mk.injEq,and_true];congr 1;congr 1;apply qr1;intro q;rw[qtk,qrw,qrw];by_cases hq:j=q
     . subst hq;rw[hj];simp[vA,hsr]
     . cases hRq:R[q]? with
       | none=>simp
       | some r'=>
        have:¬ r.key=r'.key:=fun e=>hq (Ju h.keys hj hRq e)
        simp[hq,vA,yR,this]
   . refine⟨h.keys,h.toks,h.stamps,h.lt,fun q=>?_,fun r' hr'=>?_⟩
     . rw[yR];split
       . rename_i e;subst e;simp[hk]
       . exact h.cover q
     . obtain⟨a1,a2⟩:=h.tok r' hr';refine⟨a1,?_⟩;by_cases e:r'.tok=r.tok
       . obtain⟨j',hj'⟩:=qr3 hr';have:=Ju h.toks hj hj' e.symm;subst this;rw[hj]at hj';cases hj';rw[qq4 (qqV.1 a2).1,hsr];simp
       . have hkk:¬ r.key=r'.key:=by
          intro e2;obtain⟨j',hj'⟩:=qr3 hr';have:=Ju h.keys hj hj' e2;subst this;rw[hj]at hj';cases hj';exact e rfl
         rw[qqX (Ne.symm e),a2,yR,if_neg hkk]
   . exact Za hT ht1 _
   . rw[qqX (hntd r hr)]
 . have hnone:kV E i=[]:=qrF.1 fun e=>hk ((h.cover i).1 e)
   have hf:∀ s,wo (.int .i64 i) (R.map (vA E)) s=some none:=fun s=>qdo R s fun r hr e=>hk (qq3.2 ⟨r,hr,e⟩)
   have hsr:=yR E i k i;rw[if_pos rfl,hnone,qrh]at hsr;have htl:∀ r∈R,r.tok<T.length:=fun r hr=>(qqV.1 (h.tok r hr).2).1
   refine⟨.sl 0 [] .nil,.sl 1 [[.int .i64 k]] (.chain T.length 1),T++[some 1],R++[⟨i,T.length,clk⟩],clk+1,?_,?_,?_,?_,hT.trans (qrY _ _),by simp,fun td htd hntd=>⟨?_,?_⟩⟩
   . intro H T1 m hm;simp only[yj,e86,d86,jc,e3,d3,hm,hf,qg3,e28,z28];simp
   . intro H;simp[qt,e28,d28,e3,s3,z3,b3,zD]
   . intro H T1 m hm;simp only[zQ,e86,d86,jc,e3,d3,hm,hf];simp only[qtv,if_true,Option.some.injEq,St.mk.injEq,and_true];congr 1;congr 1;rw[qrf];congr 1
     . apply qr7;intro r hr;have:¬ i=r.key:=fun e=>hk (qq3.2 ⟨r,hr,e.symm⟩)
       simp[vA,yR,this]
     . simp[vA,hsr]
   . refine⟨?_,?_,?_,?_,fun q=>?_,fun r' hr'=>?_⟩
     . rw[qrf,qsc];refine⟨h.keys,by simp,?_⟩;rintro a ha b hb rfl;simp at hb;exact hk (by rw[<- hb];exact ha)
     . rw[qrf,qsc];refine⟨h.toks,by simp,?_⟩;rintro a ha b hb rfl;simp at hb;obtain⟨r,hr,rfl⟩:=qq3.1 ha;have:=htl r hr;omega
     . rw[qrf,qsc];refine⟨h.stamps,by simp,?_⟩;rintro a ha b hb rfl;simp at hb;obtain⟨r,hr,rfl⟩:=qq3.1 ha;have:=h.lt r hr;omega
     . intro r hr;rcases qre.1 hr with hr|hr
       . have:=h.lt r hr;omega
       . simp at hr;subst hr;simp
     . rw[yR,qrf,qre];by_cases e:i=q
       . subst e;simp
       . rw[if_neg e,h.cover q];have:¬ q=i:=fun h=>e h.symm
         simp[this]
     . rcases qre.1 hr' with hr' | hr'
       . obtain⟨a1,a2⟩:=h.tok r' hr';have:¬ i=r'.key:=fun e=>hk (qq3.2 ⟨r',hr',e.symm⟩)
         refine⟨a1,?_⟩;rw[qrc (htl r' hr'),a2,yR,if_neg this]
       . simp at hr';subst hr';refine⟨?_,?_⟩
         . obtain⟨u,rfl⟩:=hT;simp
         . simp[hsr]
   . rw[qrc htd]
   . intro r hr;rcases qre.1 hr with hr|hr
     . exact hntd r hr
     . simp at hr;subst hr;simp;omega
theorem AfterOk.keep {T T':List (Option Nat)}{n:Nat}{E:List (Int×Int)}{R:List Rec}{clk:Nat}(h:AfterOk T n E R clk)(hk:∀ r∈R,T'[r.tok]?=T[r.tok]?):AfterOk T' n E R clk :=
 ⟨h.keys,h.toks,h.stamps,h.lt,h.cover,fun r hr=>⟨(h.tok r hr).1,by rw[hk r hr];exact (h.tok r hr).2⟩⟩
theorem AfterOk.ext {T T':List (Option Nat)}{n:Nat}{E:List (Int×Int)}{R:List Rec}{clk:Nat}(h:AfterOk T n E R clk)(hT:T <+: T'):AfterOk T' n E R clk:=h.keep fun r hr=>by
 obtain⟨u,rfl⟩:=hT;rw[qrc (qqV.1 (h.tok r hr).2).1]
end
def z5 (l:List Var)(x:It):List Dist:=if x.kind=3 then (wj l x.name).map fun i=>⟨i,x.ws⟩ else []
def yK (l:List Var)(ks:List Int)(i:Int):List (Int×Int):=(ks.filter fun k=>zW l i&&zW l k).map fun k=>(i,k)
def zE (l:List Var)(x:It):List (Int×Int):=if x.kind=6 then (zX l x.after).flatMap (yK l (zX l x.before)) else []
def stE (l:List Var)(S:List Signal)(i:Nat):Int:=match S[i]? with
 | some s=>(match l[(ka l s.name).toNat]? with
  | some v=>if ka l s.name<0\/v.mode≠0 then 7 else if (S.take i).any (fun x=>x.name==s.name)=true then 8 else if s.value<0\/2 ^ v.width.toNat<=s.value then 1 else 0
  | none=>7)
 | none=>0
def jO (l:List Var)(S:List Signal):Int:=qh (stE l S) (List.range S.length)
def Q7 (l:List Var)(s:Signal):List Var:=match l[(ka l s.name).toNat]? with
 | some v=>l.set (ka l s.name).toNat ⟨v.name,v.width,v.mode,s.value⟩
 | none=>l
def q6 (l:List Var)(S:List Signal):List Var:=S.foldl Q7 l
def qJ (E:List (Int×Int)):Nat->Int->Nat
 | 0,_=>0
 | f+1,i=>(E.filter fun e=>e.1==i).foldl (fun n e=>max n (qJ E f e.2+1)) 0
def yP (E:List (Int×Int))(i:Int):Bool:=E.any fun e=>e.1==i||e.2==i
def acyc (E:List (Int×Int))(n:Nat):Bool:=E.all fun e=>decide (qJ E n e.2<qJ E n e.1)
def JT (E:List (Int×Int))(n:Nat):Nat:=E.foldl (fun m e=>max m (qJ E n e.1)) 0
def yk (E:List (Int×Int))(n:Nat)(i:Int):Nat:=if yP E i=true then qJ E n i else JT E n
def zB (l:List Var)(E:List (Int×Int)):List (List Int) :=
 ((List.range (JT E l.length+1)).map fun g=>((List.range l.length).filter fun (i:Nat)=>zW l (i:Int)&&decide (yk E l.length (i:Int)=g)).map fun (i:Nat)=>(i:Int)).filter fun g=>!g.isEmpty
noncomputable def qE (F:yB)(l:List Var)(e:Ex):Int :=
 if qM e≠0 then qM e else if Ql F [] e≠0 then Ql F [] e else if 400<(zx l e).1 then 2 else if qM (scE l e)≠0 then 2 else 0
def qx (k:Int)(x:List It):List It:=x.filter fun y=>decide (y.kind=k)
def qi (F:yB)(ls:List (List It)):List It:=ls.flatMap (qQ F 6 none)
noncomputable def WW (c:Cls)(off:List Str)(more:List It)(S:List Signal):Int :=
 let F:=qc c
 let l:=qf c
 let x:=qi F (zr c off more)
 let d:=x.flatMap (z5 l)
 let E:=x.flatMap (zE l)
 if qh (qU F) (zr c off more)≠0 then qh (qU F) (zr c off more)
 else if jO l S≠0 then jO l S
 else if zl l d≠0 then zl l d
 else if acyc E l.length=false then 10
 else if qh (fun y=>qE F l y.expr) (qx 1 x)≠0 then qh (fun y=>qE F l y.expr) (qx 1 x)
 else if qh (fun y=>qE F l y.expr) (qx 2 x)≠0 then qh (fun y=>qE F l y.expr) (qx 2 x)
 else zT ⟨q6 l S,(qx 1 x).map fun y=>scE l y.expr,(qx 2 x).map fun y=>scE l y.expr,d,zB l E⟩
def Qr (c:Cls)(off:List Str)(more:List It)(S:List Signal):Problem :=
 let F:=qc c
 let l:=qf c
 let x:=qi F (zr c off more)
 ⟨q6 l S,(qx 1 x).map fun y=>scE l y.expr,(qx 2 x).map fun y=>scE l y.expr,x.flatMap (z5 l),zB l (x.flatMap (zE l))⟩
def yC:Problem:=⟨[],[],[],[],[]⟩
noncomputable def jm (q:Ask):Int :=
 if jR q.src q.name≠0 then jR q.src q.name
 else if q.off.any (fun s=>!(qy q.src q.name).blocks.any fun b=>b.name==s)=true then 7
 else WW (qy q.src q.name) q.off q.more q.state
noncomputable def jP (q:Ask):Problem:=if jm q≠0 then yC else Qr (qy q.src q.name) q.off q.more q.state
theorem qbD (c:Cls)(off:List Str)(more:List It)(hb:c.blocks.length<=1000)(ho:Fits off)(H:List Blk)(T:List (Option Nat))(B:Nat)(a0 a1 a2 a4 a5 a6 a7 a8 a9:AV)
 (hB:H[B]?=some (.cells [a0,a1,a2,sB c.blocks,a4,a5,a6,a7,a8,a9])) :
 qq Zp GG 46 [.ptr B 0,sS off,sI more] ⟨H,T⟩ (fun r O'=>r=.sl 1 ((zr c off more).map ZE) .none/\∃ t T',O'=⟨H++t,T'⟩/\T <+: T'):=by
 refine qq.up ?_;refine qq.k qg Tryz.func46 rfl (by kernel_rfl) ?_;simp[-getElem?_pos,hB];refine qv.listR c.blocks (fun d ev O=>ev 1=sS off/\ev 2=sI more/\ev 14=sB c.blocks/\ev 15=I_ c.blocks.length/\ev 16=I_ d.length/\((d.filter (onB off)).map Blc.items).length<=d.length /\
  ∃ t T',O=⟨H++t,T'⟩/\T <+: T'/\yc T.length 1 ZE T' (ev 7) ((d.filter (onB off)).map Blc.items)) ?_ ?_ ?_
 . exact⟨by simp,by simp,by simp,by simp,by simp,by simp,[],T,by simp,qr6,by simpa using yc.nil⟩
 . rintro d b r ev O R hR hd hx hlt ⟨h1,h2,h14,h15,h16,hlen,t,T1,rfl,hT,hout⟩;have hcn:(off.any fun v=>b.name==v)=off.contains b.name:=by
    rw[qr5,qq2,qrZ];constructor
    . rintro⟨y,hy,h⟩;rw[eq_of_beq h];exact hy
    . intro h;exact⟨_,h,by simp⟩
   have hf:(d++[b]).filter (onB off)=d.filter (onB off)++(if onB off b=true then [b] else []):=by
    rw[qrI];simp[qsg]
   generalize hv7:ev 7=v7 at *;simp[-getElem?_pos,h1,h14,h15,h16,hlt,hx];refine qd.call (kI GG off b.name ho) (by simp) ?_;rw[hcn];cases hc:off.contains b.name
   . have hon:onB off b=true:=(by unfold onB;rw[hc];rfl);rw[if_pos hon]at hf;obtain⟨v',T2,happ,ho2,hT2⟩:=hout.append (m:=[b.items]) (tok:=.tight) hT D89 rfl D24 rfl (by omega) rfl (by decide) (by simp only[qq8];omega) 1 (.inl rfl);simp only[qqZ,qq9,ZE]at happ;simp[-getElem?_pos,h16,hv7,happ];refine hR _ _ ⟨h1,h2,h14,h15,by simp;exact wr (by omega) (by omega),?_,_,T2,rfl,hT2,?_⟩
     . rw[hf];simp at hlen ⊢;omega
     . rw[hf];simpa using ho2
   . have hon:¬ onB off b=true:=(by unfold onB;rw[hc];simp);rw[if_neg hon,qrl]at hf;simp[-getElem?_pos,h16];refine hR _ _ ⟨h1,h2,h14,h15,by simp;exact wr (by omega) (by omega),?_,_,T1,rfl,hT,?_⟩
     . rw[hf];simp at hlen ⊢;omega
     . rw[hf];simpa[hv7] using hout
 . rintro ev O ⟨h1,h2,h14,h15,h16,hlen,t,T1,rfl,hT,hout⟩;obtain⟨v',T2,happ,ho2,hT2⟩:=hout.append (m:=[more]) (tok:=.tight) hT D89 rfl D24 rfl (by omega) rfl (by decide) (by simp only[qq8];omega) 1 (.inl rfl);simp only[qqZ,qq9,ZE]at happ;generalize hv7:ev 7=v7 at *;simp[-getElem?_pos,h2,h15,h16,hv7,happ];exact⟨_,ho2.leq,rfl,_,_,⟨rfl,rfl⟩,hT2⟩
section
attribute [local simp] acells fin zh ze pl1 plain pl2 AV.atom
theorem Zf {α:Type}(g:α->Nat)(n:Nat):∀ (l:List α) (a:Nat),l.foldl (fun m e=>max m (g e)) a<=n↔a<=n/\∀ e∈l,g e<=n
 | [],a=>by simp
 | x::l,a=>by
  rw[qrP,Zf g n l];simp only[qra,forall_eq_or_imp];rw[<- and_assoc];refine and_congr_left fun _=>?_
  show max a (g x)<=n↔_;omega
variable {E:List (Int×Int)}
theorem wT {f:Nat}{i:Int}{n:Nat}:qJ E (f+1) i<=n↔∀ e∈E,e.1=i->qJ E f e.2+1<=n:=by
 rw[show qJ E (f+1) i=(E.filter fun e=>e.1==i).foldl (fun n e=>max n (qJ E f e.2+1)) 0 from rfl,Zf (fun e:Int×Int=>qJ E f e.2+1)];constructor
 . rintro⟨_,h⟩ e he rfl;exact h e (qrz.2 ⟨he,by simp⟩)
 . intro h;exact⟨qsW _,fun e he=>by
    obtain⟨h1,h2⟩:=qrz.1 he;exact h e h1 (by simpa using h2)⟩
theorem wU {f:Nat}{e:Int×Int}(he:e∈E):qJ E f e.2+1<=qJ E (f+1) e.1:=wT.1 (qrn _) e he rfl
theorem vV {f:Nat}{i:Int}{n:Nat}(h:n+1<=qJ E (f+1) i):∃ e∈E,e.1=i/\n<=qJ E f e.2:=by
 apply Classical.byContradiction;intro hn;have:qJ E (f+1) i<=n:=wT.2 fun e he h1=>by
  have:¬ n<=qJ E f e.2:=fun h2=>hn ⟨e,he,h1,h2⟩
  omega
 omega
theorem ZY:∀ (f:Nat) (i:Int),qJ E f i<=qJ E (f+1) i
 | 0,i=>qsW _
 | f+1,i=>wT.2 fun e he h=>by
  subst h;have:=ZY f e.2;have:=wU (E:=E) (f:=f+1) he;omega
theorem YH {f g:Nat}(h:f<=g)(i:Int):qJ E f i<=qJ E g i:=by
 induction h with
 | refl=>exact qrn _
 | step _ ih=>exact qrN ih (ZY _ i)
theorem Yj:∀ (f:Nat) (i:Int),qJ E f i<qJ E (f+1) i->qJ E (f+1) i=f+1
 | 0,i,h=>by
  have h0:qJ E 1 i<=1:=wT.2 fun e he _=>by simp[qJ]
  have:qJ E 0 i=0:=rfl;rw[qsh]at h ⊢;omega
 | f+1,i,h=>by
  obtain⟨n,hn⟩:∃ n,qJ E (f+1+1) i=n+1:=⟨qJ E (f+1+1) i-1,by omega⟩;obtain⟨e,he,rfl,h2⟩:=vV (E:=E) (f:=f+1) (n:=n) (i:=i) (by omega);have h3:=wU (E:=E) (f:=f) he;have h4:=wU (E:=E) (f:=f+1) he;have h5:=Yj f e.2 (by omega);omega
def Z2 (E:List (Int×Int))(lv:Int->Int):Prop:=(∀ i,0<=lv i)/\∀ e∈E,lv e.2<lv e.1
theorem Z2.ge {lv:Int->Int}(h:Z2 E lv):∀ (f:Nat) (i:Int),(qJ E f i:Int)<=lv i
 | 0,i=>h.1 i
 | f+1,i=>by
  cases hn:qJ E (f+1) i with
  | zero=>exact h.1 i
  | succ n=>
   obtain⟨e,he,rfl,h2⟩:=vV (E:=E) (f:=f) (n:=n) (i:=i) (by omega);have:=Z2.ge h f e.2;have:=h.2 e he;omega
theorem Z2.path {lv:Int->Int}(h:Z2 E lv):∀ (f n:Nat) (i:Int),n<=qJ E f i->∃ p:List Int,p.length=n/\p.Nodup/\(∀ x∈p,lv x<=lv i/\∃ e∈E,e.1=x)
 | _,0,i,_=>⟨[],rfl,by simp,by simp⟩
 | 0,n+1,i,hn=>by simp[qJ]at hn
 | f+1,n+1,i,hn=>by
  obtain⟨e,he,rfl,h2⟩:=vV hn;obtain⟨p,h3,h4,h5⟩:=Z2.path h f n e.2 h2;have hlt:=h.2 e he;refine⟨e.1::p,by simp[h3],qr4.2 ⟨fun hm=>?_,h4⟩,fun x hx=>?_⟩
  . have:=(h5 _ hm).1;omega
  . rcases qra.1 hx with rfl|hx
    . exact⟨qso _,e,he,rfl⟩
    . obtain⟨a,b⟩:=h5 x hx;exact⟨by omega,b⟩
theorem Qg:∀ (n:Nat) (p:List Int),p.Nodup->(∀ x∈p,0<=x/\x<n)->p.length<=n
 | 0,p,_,h=>by
  cases p with
  | nil=>simp
  | cons a l=>have:=h a (by simp);omega
 | n+1,p,hd,h=>by
  have ih:=Qg n (p.erase (n:Int)) (hd.erase _) fun x hx=>by
   obtain⟨h1,h2⟩:=(List.Nodup.mem_erase_iff hd).1 hx;have:=h x h2;omega
  have:=List.length_erase (a:=(n:Int)) (l:=p);split at this<;>omega
def Below (E:List (Int×Int))(n:Nat):Prop:=∀ e∈E,(0<=e.1/\e.1<n)/\0<=e.2/\e.2<n
theorem Z2.fix {lv:Int->Int}(h:Z2 E lv){n:Nat}(hb:Below E n)(i:Int):qJ E (n+1) i=qJ E n i:=by
 have hm:=ZY (E:=E) n i;apply Classical.byContradiction;intro hne;have h1:=Yj (E:=E) n i (by omega);obtain⟨p,h2,h3,h4⟩:=h.path (n+1) (n+1) i (by omega);have:=Qg n p h3 fun x hx=>by
  obtain⟨_,e,he,rfl⟩:=h4 x hx;exact (hb e he).1
 omega
theorem Z2.acyc {lv:Int->Int}(h:Z2 E lv){n:Nat}(hb:Below E n):acyc E n=true:=by
 unfold Proofs.YtpgcmnabljandaaGreatDoor.acyc;rw[qq7];intro e he;have h1:=wU (E:=E) (f:=n) he;rw[h.fix hb e.1]at h1;exact decide_eq_true (by omega)
theorem qfF {n:Nat}(h:acyc E n=true){e:Int×Int}(he:e∈E):qJ E n e.2<qJ E n e.1:=by
 unfold acyc at h;exact of_decide_eq_true (qq7.1 h e he)
structure Rnd (E:List (Int×Int))(N r:Nat)(lv:Int->Int):Prop where
 lo:∀ i,(qJ E r i:Int)<=lv i
 hi:acyc E N=true->∀ i,lv i<=(qJ E N i:Int)
theorem Rnd.nn {N r:Nat}{lv:Int->Int}(h:Rnd E N r lv)(i:Int):0<=lv i:=by have:=h.lo i;omega
theorem Rnd.init (N:Nat):Rnd E N 0 fun _=>0:=⟨fun i=>by simp[qJ],fun _ i=>by omega⟩
structure Mid (E:List (Int×Int))(N r:Nat)(lv0:Int->Int)(d:Int×Int->Prop)(lv:Int->Int)(ch:Bool):Prop where
 rnd:Rnd E N r lv
 up:∀ e∈E,d e->(qJ E r e.2:Int)+1<=lv e.1
 same:ch=false->∀ e∈E,d e->lv e.2<lv e.1
 last:acyc E N=true->N<=r->ch=false
theorem Mid.keep {N r:Nat}{lv0 lv:Int->Int}{d d':Int×Int->Prop}{ch:Bool}(h:Mid E N r lv0 d lv ch){e:Int×Int}(hlt:lv e.2<lv e.1)(hd:∀ x,d' x->d x\/x=e):Mid E N r lv0 d' lv ch:=by
 refine⟨h.rnd,fun x hx hdx=>?_,fun hc x hx hdx=>?_,h.last⟩
 . rcases hd x hdx with h1|rfl
   . exact h.up x hx h1
   . have:=h.rnd.lo x.2;omega
 . rcases hd x hdx with h1|rfl
   . exact h.same hc x hx h1
   . exact hlt
theorem Mid.raise {N r:Nat}{lv0 lv:Int->Int}{d d':Int×Int->Prop}{ch:Bool}(h:Mid E N r lv0 d lv ch){e:Int×Int}(he:e∈E)(hle:lv e.1<=lv e.2)(hd:∀ x,d' x->d x\/x=e):Mid E N r lv0 d' (fun j=>if j=e.1 then lv e.2+1 else lv j) true:=by
 have hge:∀ j,lv j<=(if j=e.1 then lv e.2+1 else lv j):=fun j=>by
  split
  . rename_i q;subst q;omega
  . omega
 refine⟨⟨fun i=>Int.le_trans (h.rnd.lo i) (hge i),fun ha i=>?_⟩,fun x hx hdx=>?_,?_,fun ha hn=>?_⟩
 . have hl:=qfF ha he;have h2:=h.rnd.hi ha e.2;split
   . rename_i q;subst q;omega
   . exact h.rnd.hi ha i
 . rcases hd x hdx with h1|rfl
   . exact Int.le_trans (h.up x hx h1) (hge _)
   . have:=h.rnd.lo x.2;rw[if_pos rfl];omega
 . intro hc;cases hc
 . exfalso;have hl:=qfF ha he;have h1:=h.rnd.lo e.1;have h2:=h.rnd.hi ha e.2;have h3:=YH (E:=E) hn e.1;omega
theorem Mid.next {N r:Nat}{lv0 lv:Int->Int}{d:Int×Int->Prop}{ch:Bool}(h:Mid E N r lv0 d lv ch)(hd:∀ e∈E,d e):Rnd E N (r+1) lv:=by
 refine⟨fun i=>?_,h.rnd.hi⟩
 cases hn:qJ E (r+1) i with
 | zero=>exact h.rnd.nn i
 | succ n=>
  obtain⟨e,he,rfl,h2⟩:=vV (E:=E) (f:=r) (n:=n) (i:=i) (by omega);have:=h.up e he (hd e he);omega
theorem Mid.done {N r:Nat}{lv0 lv:Int->Int}{d:Int×Int->Prop}(h:Mid E N r lv0 d lv false)(hd:∀ e∈E,d e)(hb:Below E N):acyc E N=true/\∀ i,lv i=qJ E N i:=by
 have hf:Z2 E lv:=⟨h.rnd.nn,fun e he=>h.same rfl e he (hd e he)⟩;have ha:=hf.acyc hb;exact⟨ha,fun i=>by
  have:=hf.ge N i;have:=h.rnd.hi ha i;omega⟩
theorem Mid.cyc {N r:Nat}{lv0 lv:Int->Int}{d:Int×Int->Prop}(h:Mid E N r lv0 d lv true)(hn:N<=r):acyc E N=false:=by
 cases ha:acyc E N with
 | false=>rfl
 | true=>cases h.last ha hn
end
end Go.Proofs.YtpgcmnabljandaaGreatDoor
end
