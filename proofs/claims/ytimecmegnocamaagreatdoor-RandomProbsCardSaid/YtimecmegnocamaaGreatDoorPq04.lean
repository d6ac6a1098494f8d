import Derived.Test.YtimecmegnocamaaGreatDoorPq03
set_option linter.all false
set_option linter.defProp false
namespace Go.Abs
open Go Go.RowKit
section
variable {P:Program}{G:Nat->AV}{w0:World}{ro0:Nat->Nat->Option Value}{K:Kn}{U:St}{w w':World}{N:Nat}{env:Env}{a:Act}
def qef(h:WRel G w0 ro0 K U w){t:Nat}{x:Value}{s:List UInt8}(hu:P.underlying t=some .string)(hx:qk K (.str s) x):Ran P G w0 ro0 K w (Instr.range t x) (.iter U.H.length) (U.push (.siter s 0)):=by
 simp only[qk]at hx;subst hx;refine⟨.pointer (some ⟨w.heap.size,0,none⟩),w.alloc (.stringIter ⟨s.toArray⟩ 0),K.addM U.H.length w.heap.size (j9 _),?_,qFC h _ _,h.push ?_,?_⟩
 . simp[Instr.range,run_underlying hu]
 . simp[ym]
 simp only[qk];exact⟨w.heap.size,by simp[Kn.addM],rfl⟩
def qhS(h:WRel G w0 ro0 K U w){t:Nat}{x:Value}{a:AV}{v:AV}{U':St}(hx:qk K a x)(hf:qaE U a=some (v,U')):Ran P G w0 ro0 K w (Instr.next x true t) v U':=by
 unfold qaE at hf;split at hf
 . rename_i b;split at hf
   . rename_i s pos hb;simp only[qk]at hx;obtain⟨B,hm,rfl⟩:=hx;obtain⟨B',h1,hB0,hBl,h4,_⟩:=h.blk b _ hb;rw[hm]at h1;cases h1;simp only[ym]at h4;have hbl:b<U.H.length:=(qAU.1 hb).1;split at hf
     . rename_i hp;simp only[qBg,qBh]at hf;obtain⟨rfl,rfl⟩:=hf;have hp':pos<(ByteArray.mk s.toArray).size:=(by simpa[ByteArray.size] using hp);refine⟨.tuple #[.bool true,.int .i64 pos,.int .i32 (Utf8.decode ⟨s.toArray⟩ pos).1],{w with heap:=w.heap.setIfInBounds B (.stringIter ⟨s.toArray⟩ (pos+(Utf8.decode ⟨s.toArray⟩ pos).2))},K,?_,qFG K,?_,?_⟩
       . simp[Instr.next,getObj,setObj,Sem.run,h4,hp',goInt]
       . refine h.setBlk (B:=B) hbl hm rfl rfl rfl (by simp) (fun k hk=>by simp[qDw (Ne.symm hk)]) ?_ (by rw[hb];simp) (fun cs2 el2 fr2 e2=>by simp[hBl]at e2) (fun cs2 el2 fr2 e2=>by simp[hBl]at e2);simp[ym,hBl]
       simp[qk,ql]
     rename_i hp;simp only[qBg,qBh]at hf;obtain⟨rfl,rfl⟩:=hf;have hp':¬pos<(ByteArray.mk s.toArray).size:=(by simpa[ByteArray.size] using hp);refine⟨.tuple #[.bool false],w,K,?_,qFG K,h,?_⟩
     . simp[Instr.next,getObj,Sem.run,h4,hp']
     simp[qk,ql]
   cases hf
 cases hf
def Did(P:Program)(G:Nat->AV)(w0:World)(ro0:Nat->Nat->Option Value)(K:Kn)(w:World)(s:Sem Next)(v:AV)(U':St):Prop :=
 ∃v' w' K',(s.run P w=.ok (.value v') w'\/(s.run P w=.ok .skip w'/\v'=undef))/\K.le K'/\WRel G w0 ro0 K' U' w'/\qk K' v v'
def Did.of_ran{s:Sem Value}{v U'}(h:Ran P G w0 ro0 K w s v U'):Did P G w0 ro0 K w (do pure (.value (<- s))) v U':=by
 obtain⟨v',w',K',h1,h2,h3,h4⟩:=h;exact⟨v',w',K',.inl (by simp[h1]),h2,h3,h4⟩
def qFK:=@Did.of_ran
def Did.of_same(h:WRel G w0 ro0 K U w){s:Sem Value}{v}(hr:∃v',s.run P w=.ok v' w/\qk K v v'):Did P G w0 ro0 K w (do pure (.value (<- s))) v U:=by
 obtain⟨v',h1,h2⟩:=hr;exact qFK (qFJ h h1 h2)
def qFL:=@Did.of_same
def Did.of_unit{s:Sem Unit}{U'}(hr:∃w',s.run P w=.ok () w'/\WRel G w0 ro0 K U' w'):Did P G w0 ro0 K w (do s;pure .skip) (.tup []) U':=by
 obtain⟨w',h1,h2⟩:=hr;exact⟨undef,w',K,.inr ⟨by simp[h1],rfl⟩,qFG K,h2,by simp only[qk];exact⟨#[],rfl,by simp[ql]⟩⟩
def qcm(hw:WRel G w0 ro0 K U w)(he:ERel K N env a)(ps:Array (Nat×Operand)):
 (ps.map fun(i,x)=>(i,a.eval x)).toList.map (·.1)=(ps.toList.map fun p=>(p.1,ev G env p.2)).map (·.1) /\
   ql K ((ps.toList.map fun p=>(p.1,ev G env p.2)).map (·.2)) ((ps.map fun(i,x)=>(i,a.eval x)).toList.map (·.2)):=by
 constructor
 . simp
 have:=QK hw he (ps.toList.map (·.2));simpa[qbs,Function.comp_def] using this
def Kg(hw:WRel G w0 ro0 K U w)(he:ERel K N env a)(o){v U'}(h:sem (Dof P) G env U o.op=some (v,U')):
 Did P G w0 ro0 K w (execOp a.eval o) v U':=by
 have ex:=Z4 hw he;obtain⟨dst,op,type,pos,after,guard⟩:=o;simp only at h;cases op<;>simp only[sem]at h
 case move x=>
  simp only[qBg,qBh]at h;obtain⟨rfl,rfl⟩:=h;exact⟨a.eval x,w,K,.inl rfl,qFG K,hw,ex x⟩
 case assign x=>
  simp only[qBg,qBh]at h;obtain⟨rfl,rfl⟩:=h;exact⟨a.eval x,w,K,.inl rfl,qFG K,hw,ex x⟩
 case pick c x y=>
  split at h
  . rename_i b hb;simp only[qBg,qBh]at h;obtain⟨rfl,rfl⟩:=h;have hc:=ex c;rw[hb]at hc;simp only[qk]at hc;refine⟨if b then a.eval x else a.eval y,w,K,.inl ?_,qFG K,hw,?_⟩
    . simp[execOp,hc,asBool]
    cases b
    . exact ex y
    exact ex x
  cases h
 case alloc e=>
  split at h
  . rename_i i hi;split at h
    . rename_i hz;simp only[qBg,qBh]at h;obtain⟨rfl,rfl⟩:=h;exact qFK (qe4 hw hi hz)
    cases h
  cases h
 case box e x=>
  obtain⟨c,hc,he'⟩:=qA2.1 h;simp only[qBh]at he';obtain⟨rfl,rfl⟩:=he';exact qFK (qlJ hw (ex x) hc)
 case build t ps=>
  obtain⟨u,hu,he'⟩:=qA2.1 h;simp only[qBh]at he';obtain⟨rfl,rfl⟩:=he';obtain⟨p1,p2⟩:=qcm hw he ps;exact qFK (qeX hw p1 p2 hu)
 case buildSlice t n ps=>
  obtain⟨u,hu,he'⟩:=qA2.1 h;simp only[qBh]at he';obtain⟨rfl,rfl⟩:=he';obtain⟨p1,p2⟩:=qcm hw he ps;exact qFK (Yq hw p1 p2 hu)
 case load t x=>
  obtain⟨u,hu,he'⟩:=qA2.1 h;simp only[qBh]at he';obtain⟨rfl,rfl⟩:=he';exact qFK (qh1 hw (ex x) hu)
 case store t x y=>
  obtain⟨u,hu,he'⟩:=qA2.1 h;simp only[qBh]at he';obtain⟨rfl,rfl⟩:=he';exact Did.of_unit (Zc hw (ex x) (ex y) hu)
 case nilCheck x=>
  have hx:=ex x;split at h
  . rename_i b o hb;simp only[qBg,qBh]at h;obtain⟨rfl,rfl⟩:=h;rw[hb]at hx;have hx':=hx;simp only[qk]at hx;obtain⟨B,_,e⟩:=hx;exact⟨a.eval x,w,K,.inl (by simp[execOp,e]),qFG K,hw,hx'⟩
  . rename_i c hb;simp only[qBg,qBh]at h;obtain⟨rfl,rfl⟩:=h;rw[hb]at hx;have hx':=hx;simp only[qk]at hx;obtain⟨B,off,e,_⟩:=hx;exact⟨a.eval x,w,K,.inl (by simp[execOp,e]),qFG K,hw,hx'⟩
  cases h
 case binOp op t x y u=>
  obtain⟨u,hu,he'⟩:=qA2.1 h;simp only[qBh]at he';obtain⟨rfl,rfl⟩:=he';exact qFL hw (qlP (ex x) (ex y) hu x y)
 case unOp op t x=>
  obtain⟨u,hu,he'⟩:=qA2.1 h;simp only[qBh]at he';obtain⟨rfl,rfl⟩:=he';exact qFL hw (qmK (ex x) hu)
 case convert s d x=>
  obtain⟨u,hu,he'⟩:=qA2.1 h;simp only[qBh]at he';obtain⟨rfl,rfl⟩:=he';exact qFL hw (qin hw (ex x) hu)
 case makeFunc fn x y=>
  cases fn<;>simp only at h<;>try(cases h;done)
  rename_i f;simp only[qBg,qBh]at h;obtain⟨rfl,rfl⟩:=h;refine⟨.func (.func f) (x.map a.eval) (y.map a.eval),w,K,.inl (by simp[execOp,Instr.makeFunc]),qFG K,hw,?_⟩;simp only[qk];exact⟨_,_,rfl,by simpa using QK hw he x.toList,by simpa using QK hw he y.toList⟩
 case makeMap t r=>
  cases r with
  | none=>
   simp only[qBg,qBh]at h;obtain⟨rfl,rfl⟩:=h;exact qFK (qaI hw t)
  |some r=>cases h
 case makeSlice t l c=>exact qFK (Qg hw (ex l) (ex c) h)
 case slice t x lo hi mx=>
  obtain⟨hlo,hlo0⟩:=qen hw he lo;obtain⟨hhi,hhi0⟩:=qen hw he hi;obtain⟨hmx,hmx0⟩:=qen hw he mx;have hx:=ex x;split at h
  . rename_i i hD;obtain⟨inf,d,z,hi,hu,_,rfl⟩:=qH hD;simp only at h;split at h
    . rename_i s hd hxs;have:=vY hd;subst this;obtain⟨u,hu',he'⟩:=qA2.1 h;simp only[qBh]at he';obtain⟨rfl,rfl⟩:=he';rw[hxs]at hx;simp only[qk]at hx;have:=qjs (P:=P) (K:=K) (w:=w) hu hlo hlo0 hhi hhi0 hmx0 hu';rw[<- hx]at this;exact qFL hw this
    . rename_i e hd;have:=QZ hd;subst this;split at h
      . rename_i j sz rows tok hj hxs;obtain⟨inf2,d2,z2,hi2,hu2,_,rfl⟩:=qH hj;split at h
        . rename_i hsz;obtain⟨u,hu',he'⟩:=qA2.1 h;simp only[qBh]at he';obtain⟨rfl,rfl⟩:=he';rw[hxs]at hx;exact qFL hw (qmX hu hi2 hsz hx hlo hlo0 hhi hhi0 hmx hmx0 hu')
        cases h
      . rename_i j b off len sz hj hxs;obtain⟨inf2,d2,z2,hi2,hu2,_,rfl⟩:=qH hj;split at h
        . rename_i hsz;simp only at hsz;subst hsz;obtain⟨u,hu',he'⟩:=qA2.1 h;simp only[qBh]at he';obtain⟨rfl,rfl⟩:=he';rw[hxs]at hx;exact qFL hw (qmY hu hi2 hx hlo hlo0 hhi hhi0 hmx0 hu')
        cases h
      cases h
    cases h
  cases h
 case fieldAddr s x f=>
  obtain⟨u,hu,he'⟩:=qA2.1 h;simp only[qBh]at he';obtain⟨rfl,rfl⟩:=he';exact qFL hw (Wj hw (ex x) hu)
 case field s x f=>
  obtain⟨u,hu,he'⟩:=qA2.1 h;simp only[qBh]at he';obtain⟨rfl,rfl⟩:=he';exact qFL hw (qeJ (ex x) hu)
 case indexAddr t x i=>
  obtain⟨u,hu,he'⟩:=qA2.1 h;simp only[qBh]at he';obtain⟨rfl,rfl⟩:=he';exact qFL hw (K7 hw (ex x) (ex i) hu)
 case index t x i=>
  obtain⟨u,hu,he'⟩:=qA2.1 h;simp only[qBh]at he';obtain⟨rfl,rfl⟩:=he';exact qFL hw (qez (ex x) (ex i) hu)
 case lookup t x i ok=>
  obtain⟨u,hu,he'⟩:=qA2.1 h;simp only[qBh]at he';obtain⟨rfl,rfl⟩:=he';exact qFL hw (qcE hw (ex x) (ex i) hu)
 case mapUpdate t m k x=>
  obtain⟨u,hu,he'⟩:=qA2.1 h;simp only[qBh]at he';obtain⟨rfl,rfl⟩:=he';exact Did.of_unit (KO hw (ex m) (ex k) (ex x) hu)
 case range t x=>
  have hx:=ex x;split at h
  . rename_i i s hD hxs;obtain⟨inf,d,z,hi,hu,_,rfl⟩:=qH hD;simp only at h;split at h
    . rename_i hd;have:=vY hd;subst this;simp only[qBg,qBh]at h;obtain⟨rfl,rfl⟩:=h;rw[hxs]at hx;exact qFK (qef hw hu hx)
    cases h
  cases h
 case next it b=>
  cases b with
  |false=>cases h
  | true=>
   simp only at h;exact qFK (qhS hw (ex it) h)
 case extract x i=>
  obtain⟨u,hu,he'⟩:=qA2.1 h;simp only[qBh]at he';obtain⟨rfl,rfl⟩:=he';exact qFL hw (qaX (ex x) hu)
 case call c=>
  obtain⟨callee,args,argTypes⟩:=c;cases callee<;>simp only at h<;>try(cases h;done)
  rename_i b;have ha:=QK hw he args.toList;unfold zL at h;split at h
  . rename_i t x hts hvs;obtain⟨u,hu,he'⟩:=qA2.1 h;simp only[qBh]at he';obtain⟨rfl,rfl⟩:=he';rw[hvs]at ha;simp only[ql]at ha;obtain⟨v1,vr,e1,h1,rfl⟩:=ha;have eargs:args.map a.eval = #[v1]:=(by apply Array.ext';simpa using e1);have ets:argTypes = #[t]:=(by apply Array.ext';simpa using hts);have:=qku hw h1 type hu;obtain⟨v',r1,r2⟩:=this;exact⟨v',w,K,.inl (by simp[execOp,resolve,invoke,builtin,eargs,ets,r1]),qFG K,hw,r2⟩
  . rename_i t u x y hts hvs;split at h
    . rename_i hut;subst hut;rw[hvs]at ha;simp only[ql]at ha;obtain⟨v1,vr,e1,h1,v2,vr2,e2,h2,rfl⟩:=ha;have eargs:args.map a.eval = #[v1,v2]:=(by apply Array.ext';simpa[e2] using e1);have ets:argTypes = #[u,u]:=(by apply Array.ext';simpa using hts);obtain⟨v',w',K',r1,r2,r3,r4⟩:=qdw hw h1 h2 type h;exact⟨v',w',K',.inl (by simp[execOp,resolve,invoke,builtin,eargs,ets,r1]),r2,r3,r4⟩
    cases h
  . rename_i x y hvs;obtain⟨u,hu,he'⟩:=qA2.1 h;simp only[qBh]at he';obtain⟨rfl,rfl⟩:=he';rw[hvs]at ha;simp only[ql]at ha;obtain⟨v1,vr,e1,h1,v2,vr2,e2,h2,rfl⟩:=ha;have eargs:args.map a.eval = #[v1,v2]:=(by apply Array.ext';simpa[e2] using e1);obtain⟨v',r1,r2⟩:=qkl (P:=P) (w:=w) h1 h2 argTypes type hu;exact⟨v',w,K,.inl (by simp[execOp,resolve,invoke,builtin,eargs,r1]),qFG K,hw,r2⟩
  . rename_i x y z hvs;obtain⟨u,hu,he'⟩:=qA2.1 h;simp only[qBh]at he';obtain⟨rfl,rfl⟩:=he';rw[hvs]at ha;simp only[ql]at ha;obtain⟨v1,vr,e1,h1,v2,vr2,e2,h2,v3,vr3,e3,h3,rfl⟩:=ha;have eargs:args.map a.eval = #[v1,v2,v3]:=(by apply Array.ext';simpa[e2,e3] using e1);obtain⟨v',r1,r2⟩:=qhX (P:=P) (w:=w) h1 h2 h3 argTypes type hu;exact⟨v',w,K,.inl (by simp[execOp,resolve,invoke,builtin,eargs,r1]),qFG K,hw,r2⟩
  . rename_i x y hvs;obtain⟨u,hu,he'⟩:=qA2.1 h;simp only[qBh]at he';obtain⟨rfl,rfl⟩:=he';rw[hvs]at ha;simp only[ql]at ha;obtain⟨v1,vr,e1,h1,v2,vr2,e2,h2,rfl⟩:=ha;have eargs:args.map a.eval = #[v1,v2]:=(by apply Array.ext';simpa[e2] using e1);obtain⟨v',r1,r2⟩:=qko (P:=P) (w:=w) h1 h2 argTypes type hu;exact⟨v',w,K,.inl (by simp[execOp,resolve,invoke,builtin,eargs,r1]),qFG K,hw,r2⟩
  cases h
 all_goals(first|(cases h;done)|(split at h<;>cases h))
end
mutual
def qO:AV->Bool
 |.ptr ..|.ms ..|.map _|.iter _|.any=>false
 |.rptr c=>qw c
 |.sl _ rows tok=>(match tok with|.chain .. =>false|_=>true)&&qX rows
 |.fn _ a b=>qw a&&qw b
 |.agg c=>qw c
 |.tup c=>qw c
 |_=>true
def qw:List AV->Bool
 |[]=>true
 |a::r=>qO a&&qw r
def qX:List (List AV)->Bool
 |[]=>true
 |a::r=>qw a&&qX r
end
def qcx:∀l,qw l=l.all qO
 |[]=>rfl
 |a::r=>by simp[qw,qcx r]
def VF:∀l,qX l=l.all (·.all qO)
 |[]=>rfl
 |a::r=>by simp[qX,VF r,qcx]
mutual
def qk.toK0{K}:∀(a){v:Value},qO a=true->qk K a v->qk (K0 K.ro) a v
 |.any,_,h,_=>by simp[qO]at h
 |.bool b,_,_,x=>by simpa[qk] using x
 |.int k n,_,_,x=>by simpa[qk] using x
 |.str s,_,_,x=>by simpa[qk] using x
 |.nilp,_,_,x=>by simpa[qk] using x
 |.ptr b off,_,h,x=>by simp[qO]at h
 | .rptr c,_,h,x=>by
  simp only[qk,qO]at h x⊢;obtain⟨B,off,h1,h2⟩:=x;exact⟨B,off,h1,qr.toK0 c B off h h2⟩
 | .sl sz rows tok,_,h,x=>by
  simp only[qk,qO,qA1]at h x⊢;rcases x with x|⟨B,off,cap,h1,h2,h3,h4⟩
  . exact .inl x
  refine .inr ⟨B,off,cap,h1,h2,qT.toK0 rows B off sz h.2 h3,?_⟩;cases tok<;>simp_all[wn]
 |.ms b off len sz,_,h,x=>by simp[qO]at h
 |.nilm,_,_,x=>by simpa[qk] using x
 |.map b,_,h,x=>by simp[qO]at h
 |.iter b,_,h,x=>by simp[qO]at h
 | .fn f a b,_,h,x=>by
  simp only[qk,qO,qA1]at h x⊢;obtain⟨va,vb,h1,h2,h3⟩:=x;exact⟨va,vb,h1,ql.toK0 a h.1 h2,ql.toK0 b h.2 h3⟩
 |.nilf,_,_,x=>by simpa[qk] using x
 | .agg c,_,h,x=>by
  simp only[qk,qO]at h x⊢;obtain⟨vs,h1,h2⟩:=x;exact⟨vs,h1,ql.toK0 c h h2⟩
 | .tup c,_,h,x=>by
  simp only[qk,qO]at h x⊢;obtain⟨vs,h1,h2⟩:=x;exact⟨vs,h1,ql.toK0 c h h2⟩
def ql.toK0{K}:∀(l){vs:List Value},qw l=true->ql K l vs->ql (K0 K.ro) l vs
 |[],_,_,x=>by simpa[ql] using x
 | a::r,_,h,x=>by
  simp only[ql,qw,qA1]at h x⊢;obtain⟨v,vr,h1,h2,h3⟩:=x;exact⟨v,vr,h1,qk.toK0 a h.1 h2,ql.toK0 r h.2 h3⟩
def qr.toK0{K}:∀(l) (B off),qw l=true->qr K B off l->qr (K0 K.ro) B off l
 |[],_,_,_,_=>by simp[qr]
 | a::r,B,off,h,x=>by
  simp only[qr,qw,qA1]at h x⊢;obtain⟨⟨v,h1,h2⟩,h3⟩:=x;exact⟨⟨v,h1,qk.toK0 a h.1 h2⟩,qr.toK0 r _ _ h.2 h3⟩
def qT.toK0{K}:∀(l) (B off sz),qX l=true->qT K B off sz l->qT (K0 K.ro) B off sz l
 |[],_,_,_,_,_=>by simp[qT]
 | a::r,B,off,sz,h,x=>by
  simp only[qT,qX,qA1]at h x⊢;obtain⟨⟨h1,h0,h2⟩,h3⟩:=x;exact⟨⟨h1,h0,qr.toK0 a _ _ h.1 h2⟩,qT.toK0 r _ _ _ h.2 h3⟩
end
def pl1:AV->AV
 |.sl sz rows (.chain _ _)=>.sl sz rows .none
 |v=>v
def pl2:AV->AV
 |.agg c=>.agg (c.map pl1)
 |v=>pl1 v
def plain:AV->AV
 |.tup c=>.tup (c.map pl2)
 |v=>pl2 v
def wL(sz:Nat):Nat->List AV->List (List AV)
 |0,_=>[]
 |n+1,c=>c.take sz::wL sz n (c.drop sz)
def yb(H:List Blk):AV->AV
 | .ms b off len sz=>match H[b]? with
  |some (.cells c)=>if off+len*sz<=c.length then .sl sz (wL sz len (c.drop off)) .none else .any
  |_=>.any
 |v=>pl1 v
def yP(H:List Blk):AV->AV
 |.agg c=>.agg (c.map (yb H))
 |v=>yb H v
def fin(H:List Blk):AV->AV
 |.tup c=>.tup (c.map (yP H))
 |v=>yP H v
def qel{K v}:∀{a:AV},qk K a v->qk K (pl1 a) v:=by
 intro a h;unfold pl1;split
 . rename_i sz rows t k;simp only[qk]at h⊢;rcases h with⟨_,_,h⟩|⟨B,off,cap,h1,h2,h3,_⟩
   . exact h.elim
   exact .inr ⟨B,off,cap,h1,h2,h3,trivial⟩
 exact h
def ql.mapRel{K K' f}(hf:∀a v,qk K a v->qk K' (f a) v):∀(l){vs:List Value},ql K l vs->ql K' (l.map f) vs
 |[],_,h=>by simpa[ql] using h
 | a::r,_,h=>by
  simp only[ql,qA7]at h⊢;obtain⟨v,vr,h1,h2,h3⟩:=h;exact⟨v,vr,h1,hf a v h2,ql.mapRel hf r h3⟩
def qFg:=@ql.mapRel
def qj0{K v}:∀{a:AV},qk K a v->qk K (pl2 a) v:=by
 intro a h;unfold pl2;split
 . simp only[qk]at h⊢;obtain⟨vs,h1,h2⟩:=h;exact⟨vs,h1,qFg (fun _ _=>qel) _ h2⟩
 exact qel h
def qjX{K v}:∀{a:AV},qk K a v->qk K (plain a) v:=by
 intro a h;unfold plain;split
 . simp only[qk]at h⊢;obtain⟨vs,h1,h2⟩:=h;exact⟨vs,h1,qFg (fun _ _=>qj0) _ h2⟩
 exact qj0 h
def JJ(sz):∀(n) (c),n*sz<=c.length->(wL sz n c).length=n/\∀(i) (r),(wL sz n c)[i]?=some r->r=(c.drop (i*sz)).take sz/\i<n
 |0,c,_=>⟨rfl,by simp[wL]⟩
 | n+1,c,h=>by
  rw[qBW]at h;obtain⟨h1,h2⟩:=JJ sz n (c.drop sz) (by simp;omega);refine⟨by simp[wL,h1],fun i r e=>?_⟩
  cases i with
  |zero=>simp[wL]at e;subst e;simp
  | succ i=>
   simp only[wL,qDx]at e;obtain⟨h3,h4⟩:=h2 i r e;refine⟨?_,by omega⟩;rw[h3,qEo,qBW,qDE,qCX sz]
section
variable {P:Program}{G:Nat->AV}{w0:World}{ro0:Nat->Nat->Option Value}{K:Kn}{U:St}{w w':World}
open Classical in
noncomputable def v9(w0 w:World)(ro:Nat->Nat->Option Value):Nat->Nat->Option Value :=
 fun b o=>match ro b o with
  |some v=>some v
  |none=>if w0.heap.size<=b then w.cell? ⟨b,o,none⟩ else none
def Yz(w0 w ro b o v)(h:ro b o=some v):v9 w0 w ro b o=some v:=by simp[v9,h]
def Kn.le_end(K:Kn)(w0 w):K.le {K with ro:=v9 w0 w K.ro} :=
 ⟨fun b o v e=>Yz w0 w K.ro b o v e,fun _ _ e=>e,qA5 _,fun t C _ e=>⟨C,e,.inl rfl⟩,fun _ _ _=>rfl,fun _ _ e=>e,fun _ _ e=>e⟩
def WRel.end_ro(h:WRel G w0 ro0 K U w):(∀b o v,v9 w0 w K.ro b o=some v->w.cell? ⟨b,o,none⟩=some v)/\(∀b o v,v9 w0 w K.ro b o=some v->b<w0.heap.size->ro0 b o=some v):=by
 constructor
 . intro b o v e;simp only[v9]at e;split at e
   . rename_i u hu;cases e;exact h.ro _ _ _ hu
   split at e
   . exact e
   cases e
 intro b o v e hb;simp only[v9]at e;split at e
 . rename_i u hu;cases e;exact h.new _ _ _ hu hb
 rw[if_neg (by omega)]at e;cases e
def qgA(h:WRel G w0 ro0 K U w){a v}(ha:qk K a v):qk {K with ro:=v9 w0 w K.ro} (yb U.H a) v:=by
 have hle:=Kn.le_end K w0 w;unfold yb;split
 . rename_i b off len sz;split
   . rename_i c hb;split
     . rename_i hl;simp only[qk]at ha⊢;obtain⟨B,cap,hm,rfl,h1,h2⟩:=ha;obtain⟨B',g1,g2,g3,⟨cs,el,g4,g5,g6,g7⟩,g8⟩:=h.blk b _ hb;rw[hm]at g1;cases g1;obtain⟨k1,k2⟩:=JJ sz len (c.drop off) (by simp;omega);refine .inr ⟨B,off,cap,by rw[k1],by rw[k1];exact h1,qFT B sz _ off fun i r e=>?_,trivial⟩;obtain⟨e1,e2⟩:=k2 i r e;have hmul:(i+1)*sz<=len*sz:=qBU _ (by omega);rw[qBW,qDE]at hmul;refine⟨by rw[e1];simp;omega,?_,qFS B r _ fun j x ex=>?_⟩
       . rw[qA3]at g5⊢;intro x hx;rw[e1]at hx;exact g5 x (qCp (qCp (qBH hx)))
       rw[e1,qBY]at ex;split at ex
       . rw[qBM,qBM]at ex;obtain⟨u,u1,u2⟩:=g7 _ _ ex;refine⟨u,?_,u2.mono hle⟩;simp only[v9,g8];rw[if_pos g2];simp only[World.cell?,g4];simpa[qC0] using u1
       cases ex
     simp[qk]
   simp[qk]
 exact(qel ha).mono hle
def qgz(h:WRel G w0 ro0 K U w){a v}(ha:qk K a v):qk {K with ro:=v9 w0 w K.ro} (yP U.H a) v:=by
 unfold yP;split
 . simp only[qk]at ha⊢;obtain⟨vs,h1,h2⟩:=ha;exact⟨vs,h1,qFg (fun _ _=>qgA h) _ h2⟩
 exact qgA h ha
def qsG(h:WRel G w0 ro0 K U w){a v}(ha:qk K a v):qk {K with ro:=v9 w0 w K.ro} (fin U.H a) v:=by
 unfold fin;split
 . simp only[qk]at ha⊢;obtain⟨vs,h1,h2⟩:=ha;exact⟨vs,h1,qFg (fun _ _=>qgz h) _ h2⟩
 exact qgz h ha
end
def bodied (P:Program) (g:FuncId):Bool:=P.funcs[g]?.any (fun fn=>fn.body.isSome && fn.name != "runtime.NumGoroutine")
def Pure(P:Program)(G:Nat->AV)(f:FuncId)(args:List AV)(r:AV):Prop :=
 bodied P f=true/\∀(w0) (ro) (vs),(∀g,qk (K0 ro) (G g) (.pointer (some ⟨g,0,none⟩)))->(∀b o v,ro b o=some v->w0.cell? ⟨b,o,none⟩=some v)->ql (K0 ro) args vs.toList ->
  Calls P f vs w0 fun e w'=>∃v ro',e=.returned v/\Below w0.heap.size w0 w'/\(∀b o v,ro b o=some v->ro' b o=some v)/\(∀b o v,ro' b o=some v->w'.cell? ⟨b,o,none⟩=some v) /\
   (∀b o v,ro' b o=some v->b<w0.heap.size->ro b o=some v)/\qk (K0 ro') r v
def qwQ(D:Nat):Deferred:={target:=.collected D,args:=#[]}
def Dfr(K:Kn)(ds:List Deferred)(K':Kn)(ds':List Deferred):Prop :=
 ∃Ds:List Nat,Ds.Nodup/\ds'=Ds.map qwQ++ds/\∀D∈Ds,K.fx D=none/\K'.fx D=some (.deferred (some []))
def Dfr.same{K K'}{ds ds':List Deferred}(h:ds'=ds):Dfr K ds K' ds':=⟨[],List.nodup_nil,by simp[h],by simp⟩
def Dfr.trans{K K1 K2}{ds ds1 ds2:List Deferred}(h1:K.le K1)(h2:K1.le K2)(a:Dfr K ds K1 ds1)(b:Dfr K1 ds1 K2 ds2):Dfr K ds K2 ds2:=by
 obtain⟨D1,n1,e1,f1⟩:=a;obtain⟨D2,n2,e2,f2⟩:=b;refine⟨D2++D1,?_,by rw[e2,e1];simp,fun D hD=>?_⟩
 . refine qCu.2 ⟨n2,n1,fun x hx y hy e=>?_⟩;subst e;have:=(f2 x hx).1;rw[(f1 x hy).2]at this;cases this
 rcases qBb.1 hD with hD|hD
 . obtain⟨g1,g2⟩:=f2 D hD;refine⟨?_,g2⟩
   cases e:K.fx D with
   |none=>rfl
   |some o=>rw[h1.fx D o e]at g1;cases g1
 obtain⟨g1,g2⟩:=f1 D hD;exact⟨g1,h2.fx _ _ g2⟩
structure Glo where
 g:Nat->AV
 X:List PanicEntry->St->Prop
instance:Coe Glo (Nat->AV):=⟨Glo.g⟩
def Glo.NoX(G:Glo):Prop:=∀c U,¬G.X c U
abbrev zl(g:Nat->AV):Glo:=⟨g,fun _ _=>False⟩
instance:Coe (Nat->AV) Glo:=⟨zl⟩
def qch(g):(zl g).NoX:=fun _ _ h=>h
@[simp]def qx6(g):(zl g).g=g:=rfl
def Out(G:Glo)(w0:World)(ro0:Nat->Nat->Option Value)(K:Kn)(ds:List Deferred)(e:Exit)(a:Act)(w:World):Prop :=
 ∃c K' U,e=.panic c/\K.le K'/\WRel G w0 ro0 K' U w/\Dfr K ds K' a.defers/\G.X c U
def JU(G:Glo)(w0:World)(ro0:Nat->Nat->Option Value)(K:Kn)(N:Nat)(ds:List Deferred)(Q:Exit->Env->St->Prop):Exit->Act->World->Prop :=
 fun e a w=>(∃K' env U,K.le K'/\WRel G w0 ro0 K' U w/\ERel K' N env a/\Dfr K ds K' a.defers/\Q e env U)\/Out G w0 ro0 K ds e a w
def AWp(P:Program)(G:Glo)(N:Nat)(c:Code)(env:Env)(U:St)(Q:Exit->Env->St->Prop):Prop :=
 ∀(w0) (ro0) (K) (a) (w),WRel G w0 ro0 K U w->ERel K N env a->c.wp P (JU G w0 ro0 K N a.defers Q) a w
def qj(P:Program)(G:Glo)(f:FuncId)(args:List AV)(U:St)(Q:AV->St->Prop):Prop :=
 bodied P f=true/\∀(w0) (ro0) (K) (w) (vs),WRel G w0 ro0 K U w->ql K args vs.toList ->
  Calls P f vs w fun e w'=>(∃v' v U' K',e=.returned v'/\K.le K'/\WRel G w0 ro0 K' U' w'/\qk K' v v'/\Q v U')\/∃c U' K',e=.panicked c/\K.le K'/\WRel G w0 ro0 K' U' w'/\G.X c U'
section
variable {P:Program}{G:Glo}{N:Nat}{env:Env}{U:St}{Q:Exit->Env->St->Prop}
def JU.mono{w0 ro0 K}{ds:List Deferred}{Q' e a w}(h:JU G w0 ro0 K N ds Q e a w)(hq:∀e env U,Q e env U->Q' e env U):JU G w0 ro0 K N ds Q' e a w:=by
 rcases h with⟨K',env',U',h1,h2,h3,hd,h4⟩|h
 . exact .inl ⟨K',env',U',h1,h2,h3,hd,hq _ _ _ h4⟩
 exact .inr h
def AWp.mono{c Q'}(h:AWp P G N c env U Q)(hq:∀e env U,Q e env U->Q' e env U):AWp P G N c env U Q' :=
 fun w0 ro0 K a w hw he=>wp_mono (h w0 ro0 K a w hw he) fun e a w x=>x.mono hq
def AWp.skip(h:Q .normal env U):AWp P G N .skip env U Q:=fun w0 ro0 K a w hw he=>wp_skip (.inl ⟨K,env,U,qFG K,hw,he,.same rfl,h⟩)
def AWp.ret(h:Q .ret env U):AWp P G N .ret env U Q:=fun w0 ro0 K a w hw he=>wp_ret (.inl ⟨K,env,U,qFG K,hw,he,.same rfl,h⟩)
def AWp.exit{id}(h:Q (.exit id) env U):AWp P G N (.exit id) env U Q:=fun w0 ro0 K a w hw he=>wp_exit (.inl ⟨K,env,U,qFG K,hw,he,.same rfl,h⟩)
def w9(next:Env->St->Prop)(Q:Exit->Env->St->Prop):Exit->Env->St->Prop
 |.normal,env,U=>next env U
 |e,env,U=>Q e env U
def JU.after{w0 ro0 K K'}(hle:K.le K'){ds ds':List Deferred}(hd:Dfr K ds K' ds'){e a w}(h:JU G w0 ro0 K' N ds' Q e a w):JU G w0 ro0 K N ds Q e a w:=by
 rcases h with⟨K1,env',U',h1,h2,h3,hd',h4⟩|⟨c,K1,U',e,h1,h2,hd',h4⟩
 . exact .inl ⟨K1,env',U',qFH hle h1,h2,h3,hd.trans hle h1 hd',h4⟩
 exact .inr ⟨c,K1,U',e,qFH hle h1,h2,hd.trans hle h1 hd',h4⟩
def AWp.seq{x y}(h:AWp P G N x env U (w9 (fun env U=>AWp P G N y env U Q) Q)):AWp P G N (.seq x y) env U Q:=by
 intro w0 ro0 K a w hw he;refine wp_seq (wp_mono (h w0 ro0 K a w hw he) ?_);intro e a' w' hp;rcases hp with⟨K',env',U',h1,h2,h3,hd,h4⟩|⟨c,K',U',rfl,hp⟩
 case inr=>exact .inr ⟨c,K',U',rfl,hp⟩
 cases e with
 |normal=>exact wp_mono (h4 w0 ro0 K' a' w' h2 h3) fun e a w x=>x.after h1 hd
 |exit id=>exact .inl ⟨K',env',U',h1,h2,h3,hd,h4⟩
 |goto l=>exact .inl ⟨K',env',U',h1,h2,h3,hd,h4⟩
 |ret=>exact .inl ⟨K',env',U',h1,h2,h3,hd,h4⟩
 |panic c=>exact .inl ⟨K',env',U',h1,h2,h3,hd,h4⟩
 |outgrown=>exact .inl ⟨K',env',U',h1,h2,h3,hd,h4⟩
def AWp.cond{c x y b}(hc:ev G env c=.bool b)(ht:b=true->AWp P G N x env U Q)(hf:b=false->AWp P G N y env U Q):AWp P G N (.cond c x y) env U Q:=by
 intro w0 ro0 K a w hw he;have:=Z4 hw he c;rw[hc]at this;simp only[qk]at this;exact wp_cond_split this (fun e=>ht e w0 ro0 K a w hw he) (fun e=>hf e w0 ro0 K a w hw he)
def vd(id:Nat)(Q:Exit->Env->St->Prop):Exit->Env->St->Prop
 |.exit id',env,U=>if id'=id then Q .normal env U else Q (.exit id') env U
 |e,env,U=>Q e env U
def AWp.block{id c}(h:AWp P G N c env U (vd id Q)):AWp P G N (.block id c) env U Q:=by
 intro w0 ro0 K a w hw he;refine wp_block (wp_mono (h w0 ro0 K a w hw he) ?_);intro e a' w' hp;rcases hp with⟨K',env',U',h1,h2,h3,hd,h4⟩|⟨c,K',U',rfl,hp⟩
 case inr=>exact .inr ⟨c,K',U',rfl,hp⟩
 cases e with
 | exit id'=>
  simp only[vd]at h4;simp only[Exit.inBlock];split
  . rename_i e;rw[if_pos e]at h4;exact .inl ⟨K',env',U',h1,h2,h3,hd,h4⟩
  rename_i e;rw[if_neg e]at h4;exact .inl ⟨K',env',U',h1,h2,h3,hd,h4⟩
 |normal=>exact .inl ⟨K',env',U',h1,h2,h3,hd,h4⟩
 |goto l=>exact .inl ⟨K',env',U',h1,h2,h3,hd,h4⟩
 |ret=>exact .inl ⟨K',env',U',h1,h2,h3,hd,h4⟩
 |panic c=>exact .inl ⟨K',env',U',h1,h2,h3,hd,h4⟩
 |outgrown=>exact .inl ⟨K',env',U',h1,h2,h3,hd,h4⟩
def AWp.loop{c}(I:Nat->Env->St->Prop)(n₀)(h₀:I n₀ env U)
 (round:∀n env U,I n env U->AWp P G N c env U (w9 (fun env' U'=>∃n',n'<n/\I n' env' U') Q)):AWp P G N (.loop c) env U Q:=by
 intro w0 ro0 K a w hw he;refine wp_loop_ghost (fun n X w=>∃K' env' U',K.le K'/\WRel G w0 ro0 K' U' w/\ERel K' N env' X/\Dfr K a.defers K' X.defers/\I n env' U') n₀ ⟨K,env,U,qFG K,hw,he,.same rfl,h₀⟩ ?_;intro n a' w' hI;obtain⟨K',env',U',h1,h2,h3,hd,h4⟩:=hI;refine wp_mono (round n env' U' h4 w0 ro0 K' a' w' h2 h3) ?_;intro e a2 w2 hp;rcases hp with⟨K2,env2,U2,g1,g2,g3,gd,g4⟩|⟨c,K2,U2,rfl,g1,g2,gd,g4⟩
 case inr=>exact .inr ⟨c,K2,U2,rfl,qFH h1 g1,g2,hd.trans h1 g1 gd,g4⟩
 have gd:=hd.trans h1 g1 gd
 cases e with
 | normal=>
  obtain⟨n',hn,hi⟩:=g4;exact⟨n',hn,K2,env2,U2,qFH h1 g1,g2,g3,gd,hi⟩
 |exit id=>exact .inl ⟨K2,env2,U2,qFH h1 g1,g2,g3,gd,g4⟩
 |goto l=>exact .inl ⟨K2,env2,U2,qFH h1 g1,g2,g3,gd,g4⟩
 |ret=>exact .inl ⟨K2,env2,U2,qFH h1 g1,g2,g3,gd,g4⟩
 |panic c=>exact .inl ⟨K2,env2,U2,qFH h1 g1,g2,g3,gd,g4⟩
 |outgrown=>exact .inl ⟨K2,env2,U2,qFH h1 g1,g2,g3,gd,g4⟩
end
def qj.glo{P g}{X:List PanicEntry->St->Prop}{f args U Q}(h:qj P (zl g) f args U Q):qj P ⟨g,X⟩ f args U Q :=
 ⟨h.1,fun w0 ro0 K w vs hw hvs=>(h.2 w0 ro0 K w vs hw hvs).mono fun e w' h=>h.imp id fun⟨_,_,_,_,_,_,h⟩=>h.elim⟩
def frz(H:List Blk):Nat->AV->AV
 |0,v=>if qO v then v else .any
 | n+1,v=>if qO v then v else match v with
  | .ptr b off=>match H[b]? with
   |some (.cells c)=>.rptr ((c.drop off).map (frz H n))
   |_=>.any
  | .ms b off len sz=>match H[b]? with
   |some (.cells c)=>if off+len*sz<=c.length/\((wL sz len (c.drop off)).map (·.map (frz H n))).all (·.all AV.atom)=true then .sl sz ((wL sz len (c.drop off)).map (·.map (frz H n))) .none else .any
   |_=>.any
  |.rptr c=>.rptr (c.map (frz H n))
  |.sl sz rows _=>if(rows.map (·.map (frz H n))).all (·.all AV.atom)=true then .sl sz (rows.map (·.map (frz H n))) .none else .any
  |.fn f a b=>.fn f (a.map (frz H n)) (b.map (frz H n))
  |.agg c=>.agg (c.map (frz H n))
  |.tup c=>.tup (c.map (frz H n))
  |_=>.any
section
variable {P:Program}{G:Nat->AV}{w0:World}{ro0:Nat->Nat->Option Value}{K:Kn}{U:St}{w w':World}
def qr.mapRel{K K'}(hro:∀b o v,K.ro b o=some v->K'.ro b o=some v){f}(hf:∀a v,qk K a v->qk K' (f a) v):∀(c){B off:Nat},qr K B off c->qr K' B off (c.map f)
 |[],_,_,_=>by simp[qr]
 | a::r,B,off,h=>by
  simp only[qr,qA7]at h⊢;obtain⟨⟨v,h1,h2⟩,h3⟩:=h;exact⟨⟨v,hro _ _ _ h1,hf a v h2⟩,qr.mapRel hro hf r h3⟩
def qT.mapRel{K K'}(hro:∀b o v,K.ro b o=some v->K'.ro b o=some v){f}(hf:∀a v,qk K a v->qk K' (f a) v):∀(c){B off sz:Nat},(c.map (·.map f)).all (·.all AV.atom)=true->qT K B off sz c->qT K' B off sz (c.map (·.map f))
 |[],_,_,_,_,_=>by simp[qT]
 | a::r,B,off,sz,ha,h=>by
  simp only[qT,qA7,qCm,qA1]at h ha⊢;obtain⟨⟨h1,h2,h3⟩,h4⟩:=h;exact⟨⟨by simpa using h1,ha.1,qr.mapRel hro hf a h3⟩,qT.mapRel hro hf r ha.2 h4⟩
def qhz(w:World):Nat->Nat->Option Value:=fun b o=>w.cell? ⟨b,o,none⟩
def qkT(h:WRel G w0 ro0 K U w){ro'}(hro:∀b o v,K.ro b o=some v->ro' b o=some v)(hnew:∀B o v,w0.heap.size<=B->K.ro B o=none->w.cell? ⟨B,o,none⟩=some v->ro' B o=some v):
 ∀(n){a:AV}{v:Value},qk K a v->qk (K0 ro') (frz U.H n a) v:=by
 have base:∀{a:AV} {v:Value},qO a=true->qk K a v->qk (K0 ro') a v:=fun hn hv=>(qk.toK0 _ hn hv).mono (qgW hro)
 intro n
 induction n with
 | zero=>
  intro a v hv;unfold frz;split
  . rename_i hn;exact base hn hv
  simp[qk]
 | succ n ih=>
  intro a v hv;unfold frz;split
  . rename_i hn;exact base hn hv
  cases a with
  | ptr b off=>
   simp only;split
   . rename_i c hb;simp only[qk]at hv⊢;obtain⟨B,hm,rfl⟩:=hv;obtain⟨B',g1,g2,g3,⟨cs,el,g4,g5,g6,g7⟩,g8⟩:=h.blk b _ hb;rw[hm]at g1;cases g1;refine⟨B,off,rfl,qFS B _ _ fun i x e=>?_⟩;rw[qBp,qA2]at e;obtain⟨y,e1,rfl⟩:=e;rw[qBM]at e1;obtain⟨u,u1,u2⟩:=g7 _ _ e1;refine⟨u,hnew _ _ _ g2 (g8 _) ?_,ih u2⟩;simp only[World.cell?,g4];exact u1
   simp[qk]
  | ms b off len sz=>
   simp only;split
   . rename_i c hb;split
     . rename_i hl;obtain⟨hl,hat⟩:=hl;simp only[qk]at hv⊢;obtain⟨B,cap,hm,rfl,h1,h2⟩:=hv;obtain⟨B',g1,g2,g3,⟨cs,el,g4,g5,g6,g7⟩,g8⟩:=h.blk b _ hb;rw[hm]at g1;cases g1;obtain⟨k1,k2⟩:=JJ sz len (c.drop off) (by simp;omega);refine .inr ⟨B,off,cap,by simp[k1],by simpa[k1] using h1,qFT B sz _ off fun i r e=>?_,trivial⟩;have hatr:=qA3.1 hat r (qAV e);rw[qBp,qA2]at e;obtain⟨r0,e0,rfl⟩:=e;obtain⟨e1,e2⟩:=k2 i r0 e0;have hmul:(i+1)*sz<=len*sz:=qBU _ (by omega);rw[qBW,qDE]at hmul;refine⟨by rw[e1];simp;omega,hatr,qFS B _ _ fun j x ex=>?_⟩;rw[qBp,qA2]at ex;obtain⟨y,ey,rfl⟩:=ex;rw[e1,qBY]at ey;split at ey
       . rw[qBM,qBM]at ey;obtain⟨u,u1,u2⟩:=g7 _ _ ey;refine⟨u,hnew _ _ _ g2 (g8 _) ?_,ih u2⟩;simp only[World.cell?,g4];simpa[qC0] using u1
       cases ey
     simp[qk]
   simp[qk]
  | rptr c=>
   simp at hv⊢;obtain⟨B,off,h1,h2⟩:=hv;exact⟨B,off,h1,qr.mapRel hro (fun a v=>ih) c h2⟩
  | sl sz rows tok=>
   simp only;split
   . rename_i hat;simp only[qk]at hv⊢;rcases hv with⟨h1,h2,h3⟩|⟨B,off,cap,h1,h2,h3,h4⟩
     . subst h2;obtain⟨a0,h1,_⟩:=h1;exact .inl ⟨⟨a0,h1,.inr trivial⟩,rfl,trivial⟩
     exact .inr ⟨B,off,cap,by simpa using h1,by simpa using h2,qT.mapRel hro (fun a v=>ih) rows hat h3,trivial⟩
   simp[qk]
  | fn f a b=>
   simp at hv⊢;obtain⟨va,vb,h1,h2,h3⟩:=hv;exact⟨va,vb,h1,qFg (fun a v=>ih) a h2,qFg (fun a v=>ih) b h3⟩
  | agg c=>
   simp at hv⊢;obtain⟨vs,h1,h2⟩:=hv;exact⟨vs,h1,qFg (fun a v=>ih) c h2⟩
  | tup c=>
   simp at hv⊢;obtain⟨vs,h1,h2⟩:=hv;exact⟨vs,h1,qFg (fun a v=>ih) c h2⟩
  |_=>simp[qk]
def qss(h:WRel G w0 ro0 K U w)(n){a v}(hv:qk K a v):qk (K0 (qhz w)) (frz U.H n a) v :=
 qkT h (ro':=qhz w) (fun b o v e=>h.ro b o v e) (fun _ _ _ _ _ e=>e) n hv
def qkU(h:WRel G w0 ro0 K U w)(n){a v}(hv:qk K a v):qk (K0 (v9 w0 w K.ro)) (frz U.H n a) v :=
 qkT h (ro':=v9 w0 w K.ro) (fun b o v e=>Yz _ _ _ _ _ _ e) (fun B o v hb hr e=>by simp only[v9,hr];rwa[if_pos hb]) n hv
def qsz:AV->Bool
 |.bool _|.int ..|.str _|.nilp|.nilm|.nilf=>true
 |.sl _ rows tok=>rows.isEmpty&&(match tok with|.chain .. =>false|_=>true)
 |_=>false
def flat:AV->Bool
 |.agg c=>c.all qsz
 |.tup c=>c.all qsz
 |v=>qsz v
def qiw:AV->Bool
 |.bool _|.int ..|.str _|.nilp|.nilm|.nilf=>true
 |_=>false
def qtS:AV->Bool
 |.agg c=>c.all qiw
 |.tup c=>c.all qiw
 |v=>qiw v
def qds{K K' a v}(hf:qiw a=true)(h:qk K a v):qk K' a v:=by
 cases a<;>simp only[qiw]at hf<;>first|(cases hf;done)|simpa[qk] using h
def WD{K K'}:∀(l){vs:List Value},l.all qiw=true->ql K l vs->ql K' l vs
 |[],_,_,h=>by simpa[ql] using h
 | a::r,_,hf,h=>by
  simp only[ql,qCm,qA1]at h hf⊢;obtain⟨v,vr,h1,h2,h3⟩:=h;exact⟨v,vr,h1,qds hf.1 h2,WD r hf.2 h3⟩
def qo4{K K' a v}(hf:qtS a=true)(h:qk K a v):qk K' a v:=by
 unfold qtS at hf;split at hf
 . simp only[qk]at h⊢;obtain⟨vs,h1,h2⟩:=h;exact⟨vs,h1,WD _ hf h2⟩
 . simp only[qk]at h⊢;obtain⟨vs,h1,h2⟩:=h;exact⟨vs,h1,WD _ hf h2⟩
 exact qds hf h
def Q6(P:Program)(G:Nat->AV)(g:FuncId)(args:List AV)(U:St)(r:AV):Prop :=
 (qw (args.map plain)=true/\Pure P G g (args.map plain) r)\/(qtS r=true/\Pure P G g (args.map (frz U.H 8)) r)
def WRel.keep(hw:WRel G w0 ro0 K U w){ro'}(hb:Below w.heap.size w w')(h1:∀b o v,K.ro b o=some v->ro' b o=some v)(h2:∀b o v,ro' b o=some v->w'.cell? ⟨b,o,none⟩=some v)
 (h3:∀b o v,ro' b o=some v->b<w.heap.size->K.ro b o=some v):K.le {K with ro:=ro'}/\WRel G w0 ro0 {K with ro:=ro'} U w':=by
 have hle:K.le {K with ro:=ro'}:=⟨h1,fun _ _ e=>e,qA5 _,fun t C _ e=>⟨C,e,.inl rfl⟩,fun _ _ _=>rfl,fun _ _ e=>e,fun _ _ e=>e⟩;have hsz:=hw.size_le;refine⟨hle,hw.below.trans (hb.mono hsz),fun g=>(hw.glob g).mono (JT hle),h2,fun b o v e hlt=>hw.new b o v (h3 b o v e (by omega)) hlt,?_,hw.inj,hw.mlt,?_,hw.chd,hw.chinj,hw.nch,fun i B cs el fr e1 e2=>by
  rw[hb.block B (hw.m_lt e1).1]at e2;exact hw.bsz i B cs el fr e1 e2,fun B x e=>by
  obtain⟨g1,g2,g3,g4⟩:=hw.fx B x e;exact⟨by rw[hb.block B (qBR.1 g1).1];exact g1,g2,g3,g4⟩,hw.rwl⟩
 . intro i b e;obtain⟨B,a1,a2,a3,a4,a5⟩:=hw.blk i b e;refine⟨B,a1,a2,qBd a3 hb.size,by rw[hb.block B a3];exact a4.mono hle,fun o=>?_⟩
   cases hr:ro' B o with
   |none=>exact hr
   |some u=>have:=h3 B o u hr a3;rw[a5 o]at this;cases this
 intro t k e;obtain⟨C,a1,a2,a3,a4,⟨cs,el,a5,a6⟩,a7,a8⟩:=hw.ch t k e;have hlt:=(hw.ch_lt a1).1;refine⟨C,a1,a2,a3,a4,⟨cs,el,by rw[hb.block _ hlt];exact a5,a6⟩,fun o ho=>?_,a8⟩
 cases hr:ro' C.B o with
 |none=>exact hr
 |some u=>have:=h3 C.B o u hr hlt;rw[a7 o ho]at this;cases this
def quN(hw:WRel G w0 ro0 K U w){g args r}(hp:Q6 P G g args U r){vs}(hvs:ql K args vs.toList):
 Calls P g vs w fun e w'=>∃v' K',e=.returned v'/\K.le K'/\WRel G w0 ro0 K' U w'/\qk K' r v':=by
 rcases hp with⟨hno,hp⟩|⟨hfl,hp⟩
 . have hvs':ql (K0 K.ro) (args.map plain) vs.toList:=ql.toK0 _ hno (qFg (fun _ _=>qjX) _ hvs);refine(hp.2 w K.ro vs hw.glob hw.ro hvs').mono ?_;rintro e w' ⟨v',ro',rfl,hb,h1,h2,h3,h4⟩;obtain⟨hle,hw'⟩:=hw.keep hb h1 h2 h3;exact⟨v',{K with ro:=ro'},rfl,hle,hw',h4.mono (qwi _)⟩
 have hvs':ql (K0 (qhz w)) (args.map (frz U.H 8)) vs.toList:=qFg (fun _ _=>qss hw 8) _ hvs;have hro:=hw.ro;refine(hp.2 w (qhz w) vs (fun g=>(hw.glob g).mono (qgW hro)) (fun _ _ _ e=>e) hvs').mono ?_;rintro e w' ⟨v',ro',rfl,hb,h1,h2,h3,h4⟩;obtain⟨hle,hw'⟩:=hw.keep (ro':=K.ro) hb (fun _ _ _ e=>e) (fun b o v e=>h2 b o v (h1 b o v (hro b o v e))) (fun _ _ _ e _=>e);exact⟨v',_,rfl,hle,hw',qo4 hfl h4⟩
def Q6.bodied{g args r}(h:Q6 P G g args U r):bodied P g=true:=by
 rcases h with h|h
 . exact h.2.1
 exact h.2.1
def Q6.acall{G:Glo}{g:FuncId}{args:List AV}{r:AV}{Q:AV->St->Prop}(h:Q6 P G g args U r)(hq:Q r U):qj P G g args U Q :=
 ⟨h.bodied,fun w0 ro0 K w vs hw hvs=>(quN hw h hvs).mono fun e w' ⟨v',K',h1,h2,h3,h4⟩=>.inl ⟨v',r,U,K',h1,h2,h3,h4,hq⟩⟩
end
def qnN:AV->AV->Option (List Bool)
 |.sl _ (_::_) _,.sl _ [] .nil=>some [false]
 |.sl _ [] .nil,.sl _ [] .nil=>some [true]
 |.sl _ [] _,.sl _ [] .nil=>some [true,false]
 |.ms ..,.sl _ [] .nil=>some [false]
 |.nilp,.nilp=>some [true]
 |.ptr ..,.nilp=>some [false]
 |.rptr _,.nilp=>some [false]
 |.nilm,.nilm=>some [true]
 |.map _,.nilm=>some [false]
 |.nilf,.nilf=>some [true]
 |.fn ..,.nilf=>some [false]
 |_,_=>none
def TD.isSl:TD->Bool|.sl _=>true|_=>false
def TD.isPtr:TD->Bool|.ptr _=>true|_=>false
def TD.isMap:TD->Bool|.map .. =>true|_=>false
def TD.isFn:TD->Bool|.fn=>true|_=>false
def TD.isSl_spec{d:TD}(h:d.isSl=true):∃e,d=.sl e:=by cases d<;>simp[TD.isSl]at h;exact⟨_,rfl⟩
def TD.isPtr_spec{d:TD}(h:d.isPtr=true):∃e,d=.ptr e:=by cases d<;>simp[TD.isPtr]at h;exact⟨_,rfl⟩
def TD.isMap_spec{d:TD}(h:d.isMap=true):∃k e,d=.map k e:=by cases d<;>simp[TD.isMap]at h;exact⟨_,_,rfl⟩
def TD.isFn_spec{d:TD}(h:d.isFn=true):d=.fn:=by cases d<;>simp[TD.isFn]at h;rfl
def Jq(d:TD):AV->Bool
 |.sl .. =>d.isSl
 |.ms .. =>d.isSl
 |.nilp=>d.isPtr
 |.ptr .. =>d.isPtr
 |.rptr _=>d.isPtr
 |.nilm=>d.isMap
 |.map _=>d.isMap
 |.nilf=>d.isFn
 |.fn .. =>d.isFn
 |_=>false
def VI(D:Nat->Option TI)(neg:Bool)(t:Nat)(x y:AV)(U:St):Option (List (AV×St)) :=
 match qnN x y with
 |some l=>if Jq (qV D t) x then some (l.map fun b=>(.bool (b != neg),U)) else none
 |none=>none
def Kc(U:St)(j:TI)(x:AV):Option (Nat×List AV) :=
 match x with
 |.sl sz rows _=>if sz=j.size\/rows=[] then some (rows.length,rows.flatten) else none
 | .ms b off len sz=>if sz=j.size then(match U.H[b]? with
  |some (.cells c)=>(cut c off (len*sz)).map fun s=>(len,s)
  |_=>none) else none
 |_=>none
def ja(D:Nat->Option TI)(U:St)(t u:Nat)(s x:AV):Option (AV×St) :=
 match D t with
 | some i=>match i.d with
  | .sl e=>match D e with
   | some j=>
    if 0<j.size/\j.zero.length=j.size/\j.bytes<=256 then
     match qV D u with
     | .int _=>match s,x with
      |.sl _ [] .nil,.int _ n=>if 0<n/\n<=549755813888/\j.zero.all AV.atom=true then some (.ms U.H.length 0 n.toNat j.size,U.push (.cells (List.replicate n.toNat j.zero).flatten)) else none
      |_,_=>none
     | .sl _=>match Kc U j x with
      | some (n,src)=>
       if n=0 then none else
       match s with
       | .sl sz rows tok=>match tok with
        |.nil=>if rows.length+n<=549755813888 then some (.ms U.H.length 0 (rows.length+n) j.size,U.push (.cells (rows.flatten++src))) else none
        |.tight=>if(sz=j.size\/rows=[])/\rows.length+n<=549755813888 then some (.ms U.H.length 0 (rows.length+n) j.size,U.push (.cells (rows.flatten++src))) else none
        |_=>none
       | .ms b off len sz=>match U.H[b]? with
        | some (.cells c)=>if sz=j.size/\off=0/\len+n<=549755813888/\len*sz<=c.length then
         some (.ms U.H.length 0 (len+n) sz,{U with H:=U.H.set b .dead++[.cells (c.take (len*sz)++src)]})
         else none
        |_=>none
       |_=>none
      |none=>none
     |_=>none
    else none
   |none=>none
  |_=>none
 |none=>none
def zx(D:Nat->Option TI)(U:St)(t u:Nat)(s x:AV):Option (AV×St) :=
 match ja D U t u s x with
 |some p=>some p
 | none=>match s,x with
  | .ms b off len sz,.sl sz' [] tok=>(match qV D t,qV D u with
   |.sl e,.sl _=>(match D e with|some j=>some (.ms b off len sz,U)|none=>none)
   |_,_=>none)
  |_,_=>none
def qtQ(D:Nat->Option TI)(t:Nat)(x:AV):Option AV :=
 match D t with
 | some i=>match i.d,x with
  |.sl _,.sl _ [] .nil=>some (.int .i64 0)
  |_,_=>none
 |none=>none
def qbu:AV->Option Nat
 |.sl _ rows _=>some rows.length
 |.ms _ _ len _=>some len
 |_=>none
def qpE(U:St)(sz m:Nat):AV->Option (List AV)
 |.sl s rows _=>if s=sz/\m<=rows.length then some (rows.take m).flatten else none
 | .ms b off len s=>if s=sz/\m<=len then(match U.H[b]? with
  |some (.cells c)=>cut c off (m*sz)
  |_=>none) else none
 |_=>none
def kq(D:Nat->Option TI)(U:St)(t:Nat)(d s:AV):Option (AV×St) :=
 match D t,qbu d,qbu s with
 | some i,some dl,some n=>match i.d with
  | .sl e=>match D e with
   | some j=>
    if min n dl=0 then some (.int .i64 0,U) else
    match d with
    | .ms b off len sz=>if sz=j.size then(match qpE U sz (min n len) s,U.H[b]? with
     |some src,some (.cells c)=>if off+min n len*sz<=c.length then some (.int .i64 (min n len:Nat),{U with H:=U.H.set b (.cells (zA c off src))}) else none
     |_,_=>none) else none
    |_=>none
   |none=>none
  |_=>none
 |_,_,_=>none
def mkX(D:Nat->Option TI)(mu:Bool)(U:St)(t:Nat)(l c:AV):Option (List (AV×St)) :=
 match mu,l,c with
 | true,.int _ 0,.int _ 0=>(match qG D U t l c with
  |some (.sl sz [] _,U')=>some [(.sl sz [] .tight,U')]
  |_=>none)
 |_,_,_=>none
@[simp]def qkk{D U t l c}:mkX D false U t l c=none:=by unfold mkX;rfl
def qb8(D:Nat->Option TI)(G:Nat->AV)(mu:Bool)(env:Env)(U:St):Op->Option (List (AV×St))
 |.makeSlice t l c=>mkX D mu U t (ev G env l) (ev G env c)
 | .binOp o t x y _=>match o with
  |.eql=>VI D false t (ev G env x) (ev G env y) U
  |.neq=>VI D true t (ev G env x) (ev G env y) U
  |_=>none
 | .call {callee:=.builtin b,args:=args,argTypes:=ts}=>match b,ts.toList,args.toList with
  | .append,[t,u],[s,x]=>match mu with
   |true=>(zx D U t u (ev G env s) (ev G env x)).map fun p=>[p]
   |false=>none
  |.cap,[t],[x]=>(qtQ D t (ev G env x)).map fun v=>[(v,U)]
  |.copy,[t,_],[d,s]=>(kq D U t (ev G env d) (ev G env s)).map fun p=>[p]
  |_,_,_=>none
 |_=>none
section
variable {P:Program}{G:Nat->AV}{w0:World}{ro0:Nat->Nat->Option Value}{K:Kn}{U:St}{w w':World}{N:Nat}{env:Env}{a:Act}
def jD{t d}(h:qV (Dof P) t=d)(hd:d≠.other):∃d',P.underlying t=some d'/\QG P d'=d:=by
 unfold qV at h;split at h
 . rename_i i hD;obtain⟨inf,d',z,hi,hu,_,rfl⟩:=qH hD;exact⟨d',hu,h⟩
 exact absurd h.symm hd
def qug{d:TypeDesc}{e}(h:QG P d=.ptr e):d=.pointer e:=by
 cases d<;>simp[QG]at h
 . exact h▸rfl
 split at h<;>cases h
def qxX{d:TypeDesc}(h:QG P d=.fn):∃a b c,d=.func a b c:=by
 cases d<;>simp only[QG]at h<;>first|exact⟨_,_,_,rfl⟩|(cases h;done)|(split at h<;>cases h)
def YL{t e:Nat}(hu:P.underlying t=some (.slice e))(bx:Option Addr)(n c:Nat):(Op.equal t (.slice bx n c) (.slice none 0 0)).run P w=.ok bx.isNone w:=by
 show(Op.equalIn (9999+1) t _ _).run P w=_;rw[Op.equalIn];simp only[Sem.run_bind,run_underlying hu,Result.andThen_ok];cases bx<;>rfl
def qk7{t e:Nat}(hu:P.underlying t=some (.pointer e))(bx:Option Addr):(Op.equal t (.pointer bx) (.pointer none)).run P w=.ok bx.isNone w:=by
 show(Op.equalIn (9999+1) t _ _).run P w=_;rw[Op.equalIn];simp only[Sem.run_bind,run_underlying hu,Result.andThen_ok];cases bx<;>rfl
def qqd{t k e:Nat}(hu:P.underlying t=some (.map k e))(bx:Option Nat):(Op.equal t (.map bx) (.map none)).run P w=.ok bx.isNone w:=by
 show(Op.equalIn (9999+1) t _ _).run P w=_;rw[Op.equalIn];simp only[Sem.run_bind,run_underlying hu,Result.andThen_ok];cases bx<;>rfl
def qvI{t:Nat}{a b:Array TypeId}{c:Bool}(hu:P.underlying t=some (.func a b c)):(Op.equal t .nilFunc .nilFunc).run P w=.ok true w:=by
 show(Op.equalIn (9999+1) t _ _).run P w=_;rw[Op.equalIn];simp only[Sem.run_bind,run_underlying hu,Result.andThen_ok];rfl
def qvH{t:Nat}{a b:Array TypeId}{c:Bool}(hu:P.underlying t=some (.func a b c))(f:Fn)(x y:Array Value):(Op.equal t (.func f x y) .nilFunc).run P w=.ok false w:=by
 show(Op.equalIn (9999+1) t _ _).run P w=_;rw[Op.equalIn];simp only[Sem.run_bind,run_underlying hu,Result.andThen_ok];rfl
def qzg:Value->Bool
 |.slice .. =>true
 |.pointer _=>true
 |.map _=>true
 |.nilFunc=>true
 |.func .. =>true
 |_=>false
def qhR{t x y l x' y'}(hx:qk K x x')(hy:qk K y y')(hl:qnN x y=some l)(hfit:Jq (qV (Dof P) t) x=true):
 ∃b∈l,(Op.equal t x' y').run P w=.ok b w/\qzg x'=true:=by
 have nils:∀{sz:Nat},qk K (.sl sz [] .nil) y'->y'=.slice none 0 0:=by
  intro sz h;simp only[qk]at h;rcases h with⟨⟨a0,h1,ha0⟩,_⟩|⟨B,off,cap,h1,h2,h3,h4⟩
  . rw[h1,ha0.resolve_right (by simp)]
  simp[wn]at h4
 have slT:(qV (Dof P) t).isSl=true->∃e,P.underlying t=some (.slice e):=by
  intro he;obtain⟨e,he⟩:=TD.isSl_spec he;obtain⟨d',hu,hd'⟩:=jD he (by simp);exact⟨e,by rw[hu,QZ hd']⟩
 have ptrT:(qV (Dof P) t).isPtr=true->∃e,P.underlying t=some (.pointer e):=by
  intro he;obtain⟨e,he⟩:=TD.isPtr_spec he;obtain⟨d',hu,hd'⟩:=jD he (by simp);exact⟨e,by rw[hu,qug hd']⟩
 have mapT:(qV (Dof P) t).isMap=true->∃k e,P.underlying t=some (.map k e):=by
  intro he;obtain⟨k,e,he⟩:=TD.isMap_spec he;obtain⟨d',hu,hd'⟩:=jD he (by simp);exact⟨k,e,by rw[hu,qbR hd']⟩
 have fnT:(qV (Dof P) t).isFn=true->∃a b c,P.underlying t=some (.func a b c):=by
  intro he;obtain⟨d',hu,hd'⟩:=jD (TD.isFn_spec he) (by simp);obtain⟨a,b,c,rfl⟩:=qxX hd';exact⟨a,b,c,hu⟩
 have slOf:∀{sz rows tok},qk K (.sl sz rows tok) x'->∃bx n c,x'=.slice bx n c/\(rows≠[]->bx.isNone=false)/\(tok=.nil->bx=none):=by
  intro sz rows tok h;simp only[qk]at h;rcases h with⟨⟨a0,h1,ha0⟩,h2,_⟩|⟨B,off,cap,h1,h2,h3,h4⟩
  . exact⟨a0,0,0,h1,fun hne=>absurd h2 hne,fun ht=>ha0.resolve_right (by rw[ht];simp)⟩
  exact⟨_,_,_,h1,fun _=>rfl,fun ht=>by subst ht;simp[wn]at h4⟩
 unfold qnN at hl;split at hl
 case h_12=>cases hl
 all_goals cases hl
 all_goals simp only[Jq]at hfit
 . obtain⟨e,hu⟩:=slT hfit;have:=nils hy;subst this;obtain⟨bx,n,c,rfl,h1,h2⟩:=slOf hx;exact⟨false,by simp,by rw[YL hu,h1 (by simp)],rfl⟩
 . obtain⟨e,hu⟩:=slT hfit;have:=nils hy;subst this;obtain⟨bx,n,c,rfl,h1,h2⟩:=slOf hx;exact⟨true,by simp,by rw[YL hu,h2 rfl];rfl,rfl⟩
 . obtain⟨e,hu⟩:=slT hfit;have:=nils hy;subst this;obtain⟨bx,n,c,rfl,h1,h2⟩:=slOf hx;exact⟨bx.isNone,by cases bx<;>simp,YL hu _ _ _,rfl⟩
 . obtain⟨e,hu⟩:=slT hfit;have:=nils hy;subst this;simp only[qk]at hx;obtain⟨B,cap,hm,rfl,_⟩:=hx;exact⟨false,by simp,by rw[YL hu];rfl,rfl⟩
 . obtain⟨e,hu⟩:=ptrT hfit;simp only[qk]at hx hy;subst hx;subst hy;exact⟨true,by simp,by rw[qk7 hu];rfl,rfl⟩
 . obtain⟨e,hu⟩:=ptrT hfit;simp only[qk]at hx hy;obtain⟨B,hm,rfl⟩:=hx;subst hy;exact⟨false,by simp,by rw[qk7 hu];rfl,rfl⟩
 . obtain⟨e,hu⟩:=ptrT hfit;simp only[qk]at hx hy;obtain⟨B,off,rfl,_⟩:=hx;subst hy;exact⟨false,by simp,by rw[qk7 hu];rfl,rfl⟩
 . obtain⟨k,e,hu⟩:=mapT hfit;simp only[qk]at hx hy;subst hx;subst hy;exact⟨true,by simp,by rw[qqd hu];rfl,rfl⟩
 . obtain⟨k,e,hu⟩:=mapT hfit;simp only[qk]at hx hy;obtain⟨B,hm,rfl⟩:=hx;subst hy;exact⟨false,by simp,by rw[qqd hu];rfl,rfl⟩
 . obtain⟨u1,u2,u3,hu⟩:=fnT hfit;simp only[qk]at hx hy;subst hx;subst hy;exact⟨true,by simp,qvI hu,rfl⟩
 obtain⟨u1,u2,u3,hu⟩:=fnT hfit;simp only[qk]at hx hy;obtain⟨va,vb,rfl,_,_⟩:=hx;subst hy;exact⟨false,by simp,qvH hu _ _ _,rfl⟩
def J3(h:WRel G w0 ro0 K U w){t x y l x' y'}(hx:qk K x x')(hy:qk K y y'){neg}(hf:VI (Dof P) neg t x y U=some l)(ox oy):
 ∃v U',(v,U')∈l/\U'=U/\∃v',(do eqGuard (if neg then .neq else .eql) t ox oy x' y';binOp (if neg then .neq else .eql) t x' y':Sem Value).run P w=.ok v' w/\qk K v v':=by
 unfold VI at hf;split at hf
 . rename_i bs hbs;split at hf
   . rename_i hfit;simp only[qBg]at hf;subst hf;obtain⟨b,hb,hrun,h1⟩:=qhR (w:=w) hx hy hbs hfit;refine⟨.bool (b != neg),U,qBj.2 ⟨b,hb,rfl⟩,rfl,.bool (b != neg),?_,by simp[qk]⟩;cases neg<;>cases x'<;>simp only[qzg]at h1<;>first|(cases h1;done)|skip
     all_goals
      simp only[qBz,if_false,if_true];rw[Sem.run_bind];simp only[eqGuard,pure];simp[binOp,hrun]
   cases hf
 cases hf
end
