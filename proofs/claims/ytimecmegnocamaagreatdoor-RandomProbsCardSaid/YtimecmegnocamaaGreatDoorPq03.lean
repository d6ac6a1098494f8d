import Derived.Test.YtimecmegnocamaaGreatDoorPq02
import Derived.Laws.AppendOwn
set_option linter.all false
set_option linter.defProp false
namespace Go.Abs
open Go Go.RowKit
section
variable {P:Program}{G:Nat->AV}{w0:World}{ro0:Nat->Nat->Option Value}{K:Kn}{U:St}{w w':World}
def kc{k:IntKind}{n:Int}{y:Nat}(h0:0<=n)(h1:n<=y)(c:BoundsCode):(Instr.sliceBound (.int k n) y c).run P w=.ok n.toNat w:=by
 simp[*,Instr.sliceBound,asIntOf]
def j6{isS}{len cap:Nat}{lo hi mx lo' hi' mx'}(hlo:∀a,lo=some a->∃v,lo'=some v/\qk K a v)(hlo0:lo=none->lo'=none)
 (hhi:∀a,hi=some a->∃v,hi'=some v/\qk K a v) (hhi0:hi=none->hi'=none) (hmx:∀a,mx=some a->∃v,mx'=some v/\qk K a v) (hmx0:mx=none->mx'=none)
 {l h} (el:zR lo 0=some l) (eh:zR hi len=some h)
 (hle:0<=l/\l<=h/\h<=len) (hlc:len<=cap) (em:∀a,mx=some a->w7 a=some h/\hi.isSome):
 (Instr.sliceBounds isS len cap lo' hi' mx').run P w=.ok (l.toNat,h.toNat,if mx.isSome then h.toNat else cap) w:=by
 obtain⟨h1,h2,h3⟩:=hle;have hlb:∀c,(match lo' with|some v=>Instr.sliceBound v h.toNat c|none=>(pure 0:Sem Nat)).run P w=.ok l.toNat w:=by
  intro c
  cases lo with
  | none=>
   rw[hlo0 rfl];simp[zR]at el;subst el;simp
  | some a=>
   obtain⟨v,rfl,hv⟩:=hlo a rfl;obtain⟨k,rfl⟩:=yC el hv;exact kc h1 (by omega) c
 cases mx with
 | none=>
  rw[hmx0 rfl]
  cases hi with
  | none=>
   rw[hhi0 rfl];simp only[zR,qBg]at eh;subst eh;have:=hlb .sliceB
   cases hl':lo' with
   |none=>simp[hl']at this;simp[Instr.sliceBounds];omega
   |some v=>simp[hl']at this;simp[Instr.sliceBounds,this]
  | some a=>
   obtain⟨v,rfl,hv⟩:=hhi a rfl;obtain⟨k,rfl⟩:=yC eh hv;have hb:=fun c=>kc (P:=P) (w:=w) (k:=k) (n:=h) (y:=cap) (by omega) (by omega) c
   have:=hlb .sliceB
   cases hl':lo' with
   |none=>simp[hl']at this;simp[Instr.sliceBounds,hb];omega
   |some v=>simp[hl']at this;simp[*,Instr.sliceBounds]
 | some a=>
  obtain⟨v,rfl,hv⟩:=hmx a rfl;obtain⟨e1,e2⟩:=em a rfl;obtain⟨k,rfl⟩:=yC e1 hv
  cases hi with
  |none=>simp at e2
  | some b=>
   obtain⟨u,rfl,hu⟩:=hhi b rfl;obtain⟨k',rfl⟩:=yC eh hu;have hb:=fun c=>kc (P:=P) (w:=w) (k:=k) (n:=h) (y:=cap) (by omega) (by omega) c
   have hb':=fun c=>kc (P:=P) (w:=w) (k:=k') (n:=h) (y:=h.toNat) (by omega) (by omega) c
   have:=hlb .slice3C
   cases hl':lo' with
   |none=>simp[hl']at this;simp[Instr.sliceBounds,hb,hb'];omega
   |some v=>simp[hl']at this;simp[*,Instr.sliceBounds]
def qT.sub{B sz rows off}(h:qT K B off sz rows)(l n):qT K B (off+l*sz) sz ((rows.take n).drop l):=by
 refine qFT B sz _ _ fun i r e=>?_
 rw[qBM,qBY]at e;split at e
 . obtain⟨h1,h2,h3⟩:=qT.get B sz rows off h _ _ e;exact⟨h1,h2,by rw[qBW]at h3;rwa[qC0]⟩
 cases e
def qen{N env a}(hw:WRel G w0 ro0 K U w)(he:ERel K N env a)(o:Option Operand):
 (∀x,o.map (ev G env)=some x->∃v,o.map a.eval=some v/\qk K x v)/\(o.map (ev G env)=none->o.map a.eval=none):=by
 cases o with
 |none=>simp
 |some x=>exact⟨fun y e=>by simp at e;subst e;exact⟨_,rfl,Z4 hw he x⟩,by simp⟩
def qjs{t:Nat}(hu:P.underlying t=some .string){s:List UInt8}{lo hi mx:Option AV}{lo' hi' mx':Option Value}(hlo:∀a,lo=some a->∃v,lo'=some v/\qk K a v)(hlo0:lo=none->lo'=none)
 (hhi:∀a,hi=some a->∃v,hi'=some v/\qk K a v) (hhi0:hi=none->hi'=none) (hmx0:mx=none->mx'=none)
 {v:AV} (hf:zk (.str s) lo hi mx=some v):∃v',(Instr.sliceAt t (.string ⟨s.toArray⟩) lo' hi' mx').run P w=.ok v' w/\qk K v v':=by
 unfold zk at hf;simp only at hf;split at hf
 . rename_i l h el eh;split at hf
   . rename_i hc;cases hf;rw[hmx0 rfl];have hb:=j6 (P:=P) (w:=w) (K:=K) (isS:=false) (len:=s.length) (cap:=s.length) hlo hlo0 hhi hhi0 (mx:=none) (mx':=none) (by simp) (by simp) el eh hc (qA5 _) (by simp);refine⟨.string ⟨((s.take h.toNat).drop l.toNat).toArray⟩,?_,by simp[qk]⟩;simp at hb;simp only[Instr.sliceAt,Instr.slice,Sem.run_bind,run_underlying hu,Result.andThen_ok,ZB];simp only[Option.isSome_none,qBz,if_false,Sem.run_bind,pure,Sem.run,Result.andThen_ok,hb];rw[qd5]
   cases hf
 cases hf
def qmX{t e:Nat}(hu:P.underlying t=some (.slice e)){inf:TypeInfo}(hi2:P.info? e=some inf){sz:Nat}{rows:List (List AV)}{tok:Tok}(hsz:sz=inf.size\/rows=[])
 {x':Value} (hx:qk K (.sl sz rows tok) x')
 {lo hi mx:Option AV} {lo' hi' mx':Option Value} (hlo:∀a,lo=some a->∃v,lo'=some v/\qk K a v) (hlo0:lo=none->lo'=none)
 (hhi:∀a,hi=some a->∃v,hi'=some v/\qk K a v) (hhi0:hi=none->hi'=none) (hmx:∀a,mx=some a->∃v,mx'=some v/\qk K a v) (hmx0:mx=none->mx'=none)
 {v:AV} (hf:zk (.sl sz rows tok) lo hi mx=some v):∃v',(Instr.sliceAt t x' lo' hi' mx').run P w=.ok v' w/\qk K v v':=by
 unfold zk at hf;simp only at hf;split at hf
 . rename_i l h el eh;split at hf
   . rename_i hc;obtain⟨c1,c2,c3,c4⟩:=hc;cases hf;have hmm:∀a,mx=some a->w7 a=some h/\hi.isSome:=by
      intro a ha;subst ha;simpa[yT] using c4
     simp only[qk]at hx;rcases hx with⟨⟨a0,rfl,ha0⟩,rfl,htok⟩|⟨B,off,cap,rfl,hcap,hrows,htok⟩
     . have hb:=j6 (P:=P) (w:=w) (K:=K) (isS:=true) (len:=0) (cap:=0) hlo hlo0 hhi hhi0 hmx hmx0 el (by simpa using eh) ⟨c1,c2,by simpa using c3⟩ (qA5 _) hmm;have hl0:l.toNat=0:=(by simp at c3;omega);have hh0:h.toNat=0:=(by simp at c3;omega);rw[hl0,hh0]at hb;refine⟨.slice a0 0 0,?_,?_⟩
       . simp only[Instr.sliceAt,Instr.slice,Sem.run_bind,run_underlying hu,Result.andThen_ok,hb];cases a0<;>simp[sizeOf,typeInfo,hi2]
       simp only[qk];refine .inl ⟨⟨a0,rfl,?_⟩,by simp,?_⟩
       . rcases ha0 with rfl|rfl
         . exact .inl rfl
         . refine .inr ?_;rw[hl0,hh0];cases mx<;>simp[zT,Tok.known]
       rw[hl0,hh0];cases mx<;>cases tok<;>simp[zT,Tok.known,Tok.plain]<;>exact htok.elim
     have hb:=j6 (P:=P) (w:=w) (K:=K) (isS:=true) (len:=rows.length) (cap:=cap) hlo hlo0 hhi hhi0 hmx hmx0 el eh ⟨c1,c2,c3⟩ hcap hmm;have hM:h.toNat<=(if mx.isSome then h.toNat else cap):=(by split<;>omega);have hMc:(if mx.isSome then h.toNat else cap)<=cap:=(by split<;>omega);generalize hMe:(if mx.isSome then h.toNat else cap)=M at hb hM hMc;have hrl:((rows.take h.toNat).drop l.toNat).length=h.toNat-l.toNat:=(by simp;omega);refine⟨.slice (some ⟨B,if M=l.toNat then off else off+l.toNat*inf.size,none⟩) (h.toNat-l.toNat) (M-l.toNat),?_,?_⟩
     . simp only[Instr.sliceAt,Instr.slice,Sem.run_bind,run_underlying hu,Result.andThen_ok,hb];simp[sizeOf,typeInfo,hi2,jx];split<;>rfl
     simp only[qk];refine .inr ⟨B,_,M-l.toNat,by rw[hrl],by rw[hrl];omega,?_,?_⟩
     . by_cases he:M=l.toNat
       . have:(rows.take h.toNat).drop l.toNat=[]:=qA6 (by rw[hrl];omega);rw[this];simp[qT]
       . rw[if_neg he];rcases hsz with hsz|hsz
         . rw[<- hsz];exact qT.sub hrows _ _
         subst hsz;simp[qT]
     rw[hrl]
     cases hms:mx.isSome with
     | true=>
      rw[hms]at hMe;simp only[if_true]at hMe;simp only[if_true,zT];by_cases hcn:True/\(0<rows.length\/tok.known=true)
      . rw[if_pos hcn];simp only[wn];omega
      rw[if_neg hcn];trivial
     | false=>
      rw[hms]at hMe;simp only[qBz,if_false]at hMe;simp only[qBz,if_false,zT]
      cases tok with
      |none=>trivial
      |nil=>trivial
      | tight=>
       by_cases hn:h.toNat=rows.length
       . simp only[if_pos hn,wn]at htok⊢;omega
       simp only[if_neg hn,wn]
      | chain ct ck=>
       by_cases hn:l.toNat=0/\h.toNat=rows.length
       . simp only[if_pos hn];obtain⟨h01,h02⟩:=hn;rw[h01,h02];simp only[qCK,qCy,qEd,ite_self,<- hMe];exact htok
       simp only[if_neg hn,wn]
   cases hf
 cases hf
def qmY{t e:Nat}(hu:P.underlying t=some (.slice e)){inf:TypeInfo}(hi2:P.info? e=some inf){b off len:Nat}
 {x':Value} (hx:qk K (.ms b off len inf.size) x')
 {lo hi mx:Option AV} {lo' hi' mx':Option Value} (hlo:∀a,lo=some a->∃v,lo'=some v/\qk K a v) (hlo0:lo=none->lo'=none)
 (hhi:∀a,hi=some a->∃v,hi'=some v/\qk K a v) (hhi0:hi=none->hi'=none) (hmx0:mx=none->mx'=none)
 {v:AV} (hf:zk (.ms b off len inf.size) lo hi mx=some v):∃v',(Instr.sliceAt t x' lo' hi' mx').run P w=.ok v' w/\qk K v v':=by
 unfold zk at hf;simp only at hf;split at hf
 . rename_i l h el eh;split at hf
   . rename_i hc;obtain⟨c1,c2,c3,c4⟩:=hc;cases hf;rw[hmx0 rfl];simp only[qk]at hx;obtain⟨B,cap,hm,rfl,hcap,hpos,hbs⟩:=hx;have hb:=j6 (P:=P) (w:=w) (K:=K) (isS:=true) (len:=len) (cap:=cap) hlo hlo0 hhi hhi0 (mx:=none) (mx':=none) (by simp) (by simp) el eh ⟨c1,c2,c3⟩ hcap (by simp);simp at hb;refine⟨.slice (some ⟨B,off+l.toNat*inf.size,none⟩) (h.toNat-l.toNat) (cap-l.toNat),?_,?_⟩
     . simp only[Instr.sliceAt,Instr.slice,Sem.run_bind,run_underlying hu,Result.andThen_ok,hb];simp[sizeOf,typeInfo,hi2,jx,show ¬cap=l.toNat by omega]
     simp only[qk];refine⟨B,cap-l.toNat,hm,rfl,by omega,by omega,?_⟩;have:cap*inf.size=l.toNat*inf.size+(cap-l.toNat)*inf.size:=by rw[<- qBW];congr 1;omega
     omega
   rename_i hc1;split at hf
   . rename_i hc;obtain⟨c1,c2⟩:=hc;cases hf;rw[hmx0 rfl];simp only[qk]at hx;obtain⟨B,cap,hm,rfl,hcap,hpos,hbs⟩:=hx;have hb:=j6 (P:=P) (w:=w) (K:=K) (isS:=true) (len:=len) (cap:=cap) hlo hlo0 hhi hhi0 (mx:=none) (mx':=none) (by simp) (by simp) el eh ⟨by omega,by omega,by omega⟩ hcap (by simp);simp at hb;refine⟨.slice (some (if cap=l.toNat then⟨B,off,none⟩ else⟨B,off+l.toNat*inf.size,none⟩)) (h.toNat-l.toNat) (cap-l.toNat),?_,?_⟩
     . simp only[Instr.sliceAt,Instr.slice,Sem.run_bind,run_underlying hu,Result.andThen_ok,hb];by_cases hcl:cap=l.toNat<;>simp[sizeOf,typeInfo,hi2,jx,hcl]
     have e0:h.toNat-l.toNat=0:=(by omega);simp only[qk];right;by_cases hcl:cap=l.toNat
     . exact⟨B,off,cap-l.toNat,by rw[if_pos hcl,e0];rfl,by simp,by simp[qT],by simp[wn]⟩
     exact⟨B,off+l.toNat*inf.size,cap-l.toNat,by rw[if_neg hcl,e0];rfl,by simp,by simp[qT],by simp[wn]⟩
   cases hf
 cases hf
def qku(h:WRel G w0 ro0 K U w){t:Nat}{x v:AV}{x':Value}(hx:qk K x x')(ty:Nat)(hf:YD (Dof P) U t x=some v):
 ∃v',(Builtin.len_ #[t] ty #[x']).run P w=.ok v' w/\qk K v v':=by
 unfold YD at hf;split at hf
 . rename_i i hD;obtain⟨inf,d,z,hi,hu,_,rfl⟩:=qH hD;simp only at hf;split at hf
   . rename_i s hd;have:=vY hd;subst this;cases hf;simp only[qk]at hx;subst hx;exact⟨.int .i64 s.length,by simp[Builtin.len_,run_underlying hu,goInt,ZB],by simp[qk]⟩
   . rename_i e sz rows tok hd;have:=QZ hd;subst this;cases hf;simp only[qk]at hx;rcases hx with⟨⟨a0,rfl,_⟩,rfl,_⟩|⟨B,off,cap,rfl,_⟩
     . exact⟨.int .i64 0,by simp[Builtin.len_,run_underlying hu,goInt],by simp[qk]⟩
     exact⟨.int .i64 rows.length,by simp[Builtin.len_,run_underlying hu,goInt],by simp[qk]⟩
   . rename_i e b off len sz hd;have:=QZ hd;subst this;cases hf;simp only[qk]at hx;obtain⟨B,cap,hm,rfl,_⟩:=hx;exact⟨.int .i64 len,by simp[Builtin.len_,run_underlying hu,goInt],by simp[qk]⟩
   . rename_i n e hd;have:=qbS hd;subst this;cases hf;exact⟨.int .i64 n,by simp[Builtin.len_,run_underlying hu,goInt],by simp[qk]⟩
   . rename_i k e hd;have:=qbR hd;subst this;cases hf;simp only[qk]at hx;subst hx;exact⟨.int .i64 0,by simp[Builtin.len_,run_underlying hu,goInt],by simp[qk]⟩
   . rename_i k e b hd;have:=qbR hd;subst this;split at hf
     . rename_i es clock hb;cases hf;simp only[qk]at hx;obtain⟨B,hm,rfl⟩:=hx;obtain⟨B',h1,_,_,⟨es',h4,h5,_⟩,_⟩:=h.blk b _ hb;rw[hm]at h1;cases h1;exact⟨.int .i64 es.length,by simp[Builtin.len_,run_underlying hu,goInt,getObj,Sem.run,h4,h5],by simp[qk]⟩
     cases hf
   cases hf
 cases hf
def qkl{x y v:AV}{x' y':Value}(hx:qk K x x')(hy:qk K y y')(ts:Array Nat)(ty:Nat)(hf:wV x y=some v):
 ∃v',(Builtin.min_ ts ty #[x',y']).run P w=.ok v' w/\qk K v v':=by
 unfold wV at hf;split at hf
 . rename_i k a k' b;cases hf;simp only[qk]at hx hy;subst hx;subst hy;exact⟨.int k (if b<a then b else a),by simp[Builtin.min_,Builtin.min2],by simp[qk]⟩
 cases hf
def qhX{x y z v:AV}{x' y' z':Value}(hx:qk K x x')(hy:qk K y y')(hz:qk K z z')(ts:Array Nat)(ty:Nat)(hf:qkm x y z=some v):
 ∃v',(Builtin.min_ ts ty #[x',y',z']).run P w=.ok v' w/\qk K v v':=by
 unfold qkm at hf;split at hf
 . rename_i k a k' b k'' c;cases hf;simp only[qk]at hx hy hz;subst hx;subst hy;subst hz;exact⟨.int k (if c<(if b<a then b else a) then c else if b<a then b else a),by simp[Builtin.min_,Builtin.min2],by simp[qk]⟩
 cases hf
def qko{x y v:AV}{x' y':Value}(hx:qk K x x')(hy:qk K y y')(ts:Array Nat)(ty:Nat)(hf:qnS x y=some v):
 ∃v',(Builtin.max_ ts ty #[x',y']).run P w=.ok v' w/\qk K v v':=by
 unfold qnS at hf;split at hf
 . rename_i k a k' b;cases hf;simp only[qk]at hx hy;subst hx;subst hy;exact⟨.int k (if b > a then b else a),by simp[Builtin.max_,Builtin.max2],by simp[qk]⟩
 cases hf
end
section
variable {P:Program}{G:Nat->AV}{w0:World}{ro0:Nat->Nat->Option Value}{K:Kn}{U:St}{w w':World}
def Yi(t ty e el)(i:TypeInfo)(ht:P.underlying t=some (.slice e))(hi:P.info? e=some i)
 (g sLen sCap cur) (hg:w.heap[g]?=some (.cells cur el (0,0)))
 (a:Addr) (m c news) (hl:news.length=m*i.size) (hnews:∀(j) (u),news[j]?=some u->w.cell? (a.add j)=some u) (h1:∀u∈news,u.oneCell'=true)
 (hroom:sLen+m<=sCap) (hfit:sLen*i.size+news.length<=cur.size):
 (Builtin.append_ #[t,t] ty #[.slice (some ⟨g,0,none⟩) sLen sCap,.slice (some a) m c]).run P w =
   .ok (.slice (some ⟨g,0,none⟩) (sLen+m) sCap) (w.setRow g (cur.toList.take (sLen*i.size)++news++cur.toList.drop (sLen*i.size+news.length)).toArray):=by
 have hf:=run_firstCells_some (P:=P) w i.size m a m c news hl hnews;have hst:=run_storeCells_at P g (sLen*i.size) el news 0 cur w hg (by simpa using hfit) h1;simp at hst;simp[Builtin.append_,run_underlying ht,sizeOf,typeInfo,hi,Builtin.lenOf,hroom,hf,Addr.add_lit,hst]
def wR(h:WRel G w0 ro0 K U w){B off sz rows}(hr:qT K B off sz rows):
 ∃ vs:List Value,ql K rows.flatten vs/\vs.length=rows.length*sz/\(∀(j) (v),vs[j]?=some v->w.cell? ((⟨B,off,none⟩:Addr).add j)=some v) /\
  rows.flatten.all AV.atom=true/\∀v∈vs,v.oneCell'=true:=by
 obtain⟨f1,f2,f3⟩:=qT.flat B sz rows off hr;obtain⟨vs,g1,g2⟩:=qFR h.ro B _ off f1;exact⟨vs,g1,by rw[g1.length,f2],fun j v e=>by rw[jx];exact g2 j v e,f3,g1.oneCells f3⟩
def qar{B off sz rows}(hr:qT K B off sz rows):∀r∈rows,r.length=sz:=by
 intro r hx;obtain⟨i,hi⟩:=qBB hx;exact(qT.get B sz rows off hr i r hi).1
def qcV{B' sz k t n newCap:Nat}{rows vs K'}(hv:ql K rows.flatten vs)(hl:vs.length=rows.length*sz)(hrl:∀r∈rows,r.length=sz)(hat:rows.flatten.all AV.atom=true)
 (hle:K.le K') (hro:∀(j) (v),vs[j]?=some v->K'.ro B' j=some v) (hcap:rows.length<=newCap) (ht:t<K'.nch) (C) (hC:K'.ch t=some C) (hCk:C.k=k) (hCB:C.B=B') (hCs:C.sz=sz)
 (hCf:C.fin=vs.length) (hCc:C.cap=newCap*sz):qk K' (.sl sz rows (.chain t k)) (.slice (some ⟨B',0,none⟩) rows.length newCap):=by
 simp only[qk];refine .inr ⟨B',0,newCap,rfl,hcap,v8 rows 0 hrl hat (qFS B' _ 0 fun i a e=>?_),?_⟩
 . obtain⟨v,e1,e2⟩:=hv.get i a e;exact⟨v,by simpa using hro i v e1,e2.mono hle⟩
 refine⟨ht,fun C' hC'=>?_⟩;rw[hC]at hC';cases hC';exact⟨by omega,fun _=>⟨hCB,hCs,rfl,by rw[hCf,hl],hCc.symm⟩⟩
def qdw(h:WRel G w0 ro0 K U w){t:Nat}{s x v:AV}{s' x':Value}(hs:qk K s s')(hx:qk K x x')(ty:Nat){U':St}(hf:qq (Dof P) U t s x=some (v,U')):
 Ran P G w0 ro0 K w (Builtin.append_ #[t,t] ty #[s',x']) v U':=by
 unfold qq at hf;split at hf
 . rename_i i sz rows tok sz2 rows2 hD hro;obtain⟨inf,d,z,hi,hu,_,rfl⟩:=qH hD;simp only at hf;split at hf
   . rename_i e hd;have hd':=QZ hd;subst hd';split at hf
     . rename_i j hj;obtain⟨inf2,d2,z2,hi2,hu2,hz2,rfl⟩:=qH hj;simp only at hf;split at hf
       . rename_i hc;obtain⟨hc1,hc2,hc3,hc4,hc5,hc6⟩:=hc;cases x<;>simp only[za]at hro<;>try(cases hro;done)
         rename_i szx rowsx tokx;simp only[qBg,qBh]at hro;obtain⟨rfl,rfl⟩:=hro;split at hf
         . -- nothing is appended
           rename_i hn;subst hn;simp only[qBg,qBh]at hf;obtain⟨rfl,rfl⟩:=hf;refine qFJ h (v':=s') ?_ hs;have hx0:∃bx cx,x'=.slice bx 0 cx:=by
            simp only[qk]at hx;rcases hx with⟨⟨a0,rfl,_⟩,_⟩|⟨B2,off2,cap2,rfl,_⟩
            . exact⟨_,_,rfl⟩
            exact⟨_,_,rfl⟩
           obtain⟨bx,cx,rfl⟩:=hx0;have hf0:(Builtin.firstCells inf2.size 0 (.slice bx 0 cx)).run P w=.ok #[] w:=by
            cases bx<;>simp[Builtin.firstCells,loadCells,loadCellsFrom]
           simp only[qk]at hs;rcases hs with⟨⟨a0,rfl,_⟩,rfl,_⟩|⟨B,off,cap,rfl,hcap,_⟩
           . cases a0<;>simp[storeCells,Builtin.append_,run_underlying hu,sizeOf,typeInfo,hi2,Builtin.lenOf,hf0]
           simp[Builtin.append_,run_underlying hu,sizeOf,typeInfo,hi2,Builtin.lenOf,hcap,hf0,storeCells]
         rename_i hn;have hnpos:=qBf.2 hn;have hszx:=hc2.resolve_right hn;subst hszx;simp only[qk]at hx;rcases hx with⟨_,rfl,_⟩|⟨B2,off2,cap2,rfl,hcap2,hrows2,_⟩
         . exact absurd rfl hn
         obtain⟨news,n1,n2,n3,n4,n5⟩:=wR h hrows2;have hn48:rowsx.length*inf2.bytes<=140737488355328:=by
          calc rowsx.length*inf2.bytes<=549755813888*256:=qCQ (by omega) hc5
           _<=140737488355328:=by omega
         have hb48:(rows.length+rowsx.length)*inf2.bytes<=140737488355328:=by
          calc (rows.length+rowsx.length)*inf2.bytes<=549755813888*256:=qCQ hc6 hc5
           _<=140737488355328:=by omega
         have rl2:=qar hrows2
         -- growth into a new block,from whatever is there
         have qeA:∀(olds:List Value) (tt k n:Nat) (T':List (Option Nat)),ql K rows.flatten olds->olds.length=rows.length*inf2.size->(∀r∈rows,r.length=inf2.size)->rows.flatten.all AV.atom=true ->
          (∀u k',T'[u]?=some (some k')->(u=tt/\k'=k)\/(u≠tt/\U.T[u]?=some (some k')))->T'[tt]?=some (some k)->(∀u C,u≠tt->K.ch u=some C->∃k',T'[u]?=some (some k'))->n=T'.length->K.nch<=n->tt<n ->
          (tt<K.nch->∃C,K.ch tt=some C/\C.k<k)->∀old:Nat,
          ∃ K',K.le K'/\WRel G w0 ro0 K' {U with T:=T'} (w.drew.alloc (.cells (olds.toArray++news.toArray++Builtin.zeroCells z2.cells (grownCap w (rows.length+rowsx.length) old e-(rows.length+rowsx.length))) e)) /\
           qk K' (.sl inf2.size (rows++rowsx) (.chain tt k)) (.slice (some ⟨w.heap.size,0,none⟩) (rows.length+rowsx.length) (grownCap w (rows.length+rowsx.length) old e)):=by
          intro olds tt k n T' o1 o2 rl1 oa hT hTt hTk hn' hnch htn hk old;have hge:=grownCap_ge w (rows.length+rowsx.length) old e;generalize hcapN:grownCap w (rows.length+rowsx.length) old e=newCap at hge;have hsize:(olds.toArray++news.toArray++Builtin.zeroCells z2.cells (newCap-(rows.length+rowsx.length))).size=newCap*inf2.size:=by
           simp only[Array.size_append,qD4,size_zeroCells,show z2.cells.size=inf2.size by simpa using hc4,o2,n2,<- qBW];congr 1;omega
          have hvl:(olds++news).length=(rows++rowsx).length*inf2.size:=(by simp[*,qBW]);obtain⟨w1,w2⟩:=h.drew.chainNew (olds++news) (olds.toArray++news.toArray++Builtin.zeroCells z2.cells (newCap-(rows.length+rowsx.length))) e
           (fun j v ev=>by
             have hjl:=(qAU.1 ev).1;rw[qDM (by simpa using hjl),<- ev];simp) tt k n T' hT hTt hTk hn' hnch hk inf2.size (by
              rw[hsize,hvl];simp only[qAY];exact qBU _ hge)
          refine⟨_,w2,w1,?_⟩;have:=qcV (K:=K) (B':=w.heap.size) (sz:=inf2.size) (k:=k) (t:=tt) (n:=n) (newCap:=newCap) (rows:=rows++rowsx) (vs:=olds++news)
           (by rw[qCW];exact o1.append n1) hvl (fun r hr=>by rcases qBb.1 hr with hr|hr;exact rl1 r hr;exact rl2 r hr) (by rw[qCW,qCx,oa,n4];rfl)
           w2 (fun j v ev=>by
            have hjl:=(qAU.1 ev).1;show(if w.drew.heap.size=w.drew.heap.size/\0<=j/\j<0+(olds++news).length then(olds++news)[j-0]? else K.ro w.heap.size j)=some v;rw[if_pos ⟨rfl,by omega,by omega⟩];exact ev) (by simpa using hge) htn ⟨k,w.heap.size,(olds++news).length,(olds.toArray++news.toArray++Builtin.zeroCells z2.cells (newCap-(rows.length+rowsx.length))).size,inf2.size⟩ (if_pos rfl) rfl rfl rfl rfl hsize
          simpa using this
         split at hf
         . cases hf
         . -- the nil slice
           cases hf;simp only[qk]at hs;rcases hs with⟨⟨a0,rfl,ha0⟩,rfl,_⟩|⟨B,off,cap,rfl,hcap,hrows,htok⟩
           . obtain rfl:=ha0.resolve_right (by simp);obtain⟨K',k1,k2,k3⟩:=qeA [] U.T.length rowsx.length (U.T.length+1) (U.T++[some rowsx.length]) (by simp[ql]) (by simp) (by simp) (by simp)
              (fun u k' eu=>by
                rw[qBO]at eu;split at eu
                . rename_i hu';exact .inr ⟨by omega,eu⟩
                rename_i hu';have:u-U.T.length=0:=by
                 rcases qCh (u-U.T.length) with h0|h0
                 . exact h0
                 rw[qBs (by simp;omega)]at eu;cases eu
                rw[this]at eu;simp at eu;exact .inl ⟨by omega,eu.symm⟩)
              (by simp) (fun u C hu' hC=>by obtain⟨k',hk'⟩:=h.chd u C hC;exact⟨k',by rw[qBa (qAU.1 hk').1];exact hk'⟩) (by simp) (by rw[h.nch];omega) (by omega) (fun hlt=>by rw[h.nch]at hlt;omega) 0
             have hr:=run_append_nil (P:=P) w t ty e inf2 z2 hu hi2 hz2 ⟨B2,off2,none⟩ rowsx.length cap2 news n2 n3 hnpos (by omega) (by omega);simp only[qB8,qCC,qBk,Array.empty_append]at k2 k3;exact⟨_,_,K',hr,k1,k2,k3⟩
           simp only[wn]at htok
         . -- no spare room
           cases hf;have hT1:∀u k',(U.T++[some rowsx.length])[u]?=some (some k')->(u=U.T.length/\k'=rowsx.length)\/(u≠U.T.length/\U.T[u]?=some (some k')):=fun u k' eu=>by
            rw[qBO]at eu;split at eu
            . rename_i hu';exact .inr ⟨by omega,eu⟩
            rename_i hu';have:u-U.T.length=0:=by
             rcases qCh (u-U.T.length) with h0|h0
             . exact h0
             rw[qBs (by simp;omega)]at eu;cases eu
            rw[this]at eu;simp at eu;exact .inl ⟨by omega,eu.symm⟩
           have hT2:∀u C,u≠U.T.length->K.ch u=some C->∃k',(U.T++[some rowsx.length])[u]?=some (some k'):=fun u C hu' hC=>by
            obtain⟨k',hk'⟩:=h.chd u C hC;exact⟨k',by rw[qBa (qAU.1 hk').1];exact hk'⟩
           simp only[qk]at hs;rcases hs with⟨⟨a0,rfl,ha0⟩,rfl,_⟩|⟨B,off,cap,rfl,hcap,hrows,htok⟩
           . obtain rfl:=ha0.resolve_right (by simp);obtain⟨K',k1,k2,k3⟩:=qeA [] U.T.length rowsx.length (U.T.length+1) (U.T++[some rowsx.length]) (by simp[ql]) (by simp) (by simp) (by simp) hT1
              (by simp) hT2 (by simp) (by rw[h.nch];omega) (by omega) (fun hlt=>by rw[h.nch]at hlt;omega) 0
             have hr:=run_append_nil (P:=P) w t ty e inf2 z2 hu hi2 hz2 ⟨B2,off2,none⟩ rowsx.length cap2 news n2 n3 hnpos (by omega) (by omega);simp only[qB8,qCC,qBk,Array.empty_append]at k2 k3;exact⟨_,_,K',hr,k1,k2,k3⟩
           simp only[wn]at htok;subst htok;have hrl1:=qar hrows;obtain⟨olds,o1,o2,o3,o4,o5⟩:=wR h hrows;have hszr:=hc1;have o2':olds.length=rows.length*inf2.size:=by
            rcases hszr with rfl|hr0
            . exact o2
            subst hr0;simpa using o2
           have hrl1':∀r∈rows,r.length=inf2.size:=by
            rcases hszr with rfl|hr0
            . exact hrl1
            subst hr0;simp
           obtain⟨K',k1,k2,k3⟩:=qeA olds U.T.length rowsx.length (U.T.length+1) (U.T++[some rowsx.length]) o1 o2' hrl1' o4 hT1
            (by simp) hT2 (by simp) (by rw[h.nch];omega) (by omega) (fun hlt=>by rw[h.nch]at hlt;omega) rows.length
           have hr:=run_append_grow (P:=P) w t ty e inf2 z2 hu hi2 hz2 ⟨B,off,none⟩ rows.length rows.length olds o2' o3 ⟨B2,off2,none⟩ rowsx.length cap2 news n2 n3 (by omega) (by omega) (growslice_fits (by omega) hb48);exact⟨_,_,K',hr,k1,k2,k3⟩
         -- a row with a free end
         rename_i ct ck;split at hf
         . rename_i hct;obtain⟨hszr,hct⟩:=hct;subst hszr;cases hf;simp only[qk]at hs;rcases hs with⟨_,_,hpl⟩|⟨B,off,cap,rfl,hcap,hrows,htok⟩
           . exact hpl.elim
           obtain⟨ht1,ht2⟩:=htok;obtain⟨C,c1,c2,c3,c4,⟨cs,el,c5,c6⟩,c7,c8⟩:=h.ch ct ck hct;obtain⟨_,t2⟩:=ht2 C c1;obtain⟨t3,t4,t5,t6,t7⟩:=t2 c2.symm;have hctl:=(qAU.1 hct).1;subst t5;have hrl1:=qar hrows;obtain⟨olds,o1,o2,o3,o4,o5⟩:=wR h hrows;by_cases hroom:rows.length+rowsx.length<=cap
           . have hB:=t3;subst hB;have hmul:rows.length*inf2.size+rowsx.length*inf2.size<=cap*inf2.size:=(by rw[<- qBW];exact qBU _ hroom);have hr:=Yi (P:=P) (w:=w) t ty e el inf2 hu hi2 C.B rows.length cap cs c5 ⟨B2,off2,none⟩ rowsx.length cap2 news n2 n3 n5 hroom (by rw[n2,c6];omega);have hcsl:cs.toList.length=C.cap:=(by simpa using c6);have hmin:min (rows.length*inf2.size) cs.toList.length=rows.length*inf2.size:=(by omega);obtain⟨w1,w2⟩:=h.chainIn c1 (by rw[hct]) news (cs.toList.take (rows.length*inf2.size)++news++cs.toList.drop (rows.length*inf2.size+news.length)).toArray el (ck+rowsx.length) (by omega)
              (w':=w.setRow C.B (cs.toList.take (rows.length*inf2.size)++news++cs.toList.drop (rows.length*inf2.size+news.length)).toArray) rfl rfl rfl (by simp[World.setRow]) (fun j hj=>setRow_other w C.B j _ hj)
              (setRow_heap w C.B cs _ el _ c5) (by simp only[qD4,qAY,qBG,qCM,hmin,n2];omega) (by rw[n2];omega)
              (fun j v ev=>by
                have hjl:=(qAU.1 ev).1;rw[qDk,qBE,qA4 (by simp only[qBG,hmin];omega),qBa (by simp only[qBG,hmin];omega)];simp only[qBG,hmin,<- t6];rw[show rows.length*inf2.size+j-rows.length*inf2.size=j by omega];exact ev)
              (fun cs2 el2 e2 j hj=>by
                rw[c5]at e2;cases e2;rw[qDk,qBE,qBa (by simp only[qBG,hmin];omega),qBY,if_pos (by omega)];simp)
             refine⟨_,_,_,hr,w2,w1,?_⟩;have hro:∀(j:Nat) (u:Value),(olds++news)[j]?=some u->((K.addRo C.B C.fin news).setCh ct ⟨ck+rowsx.length,C.B,C.fin+news.length,C.cap,C.sz⟩ K.nch).ro C.B j=some u:=by
              intro j u eu;show(if C.B=C.B/\C.fin<=j/\j<C.fin+news.length then news[j-C.fin]? else K.ro C.B j)=some u;rw[qBO]at eu;split at eu
              . rename_i hjl;rw[if_neg (by omega)];have hcol:=qT.flat C.B inf2.size rows 0 hrows;obtain⟨a0,ha0⟩:∃a0,rows.flatten[j]?=some a0:=⟨_,qAW (by rwa[<- o1.length])⟩;obtain⟨v0,e0,_⟩:=qr.get C.B _ 0 hcol.1 j a0 ha0;have hc0:=h.ro _ _ _ e0;have hu0:=o3 j u eu;rw[jx]at hu0;rw[hu0]at hc0;rw[hc0];simpa using e0
              rename_i hjl;have hjl2:=(qAU.1 eu).1
              rwa[if_pos ⟨rfl,by omega,by omega⟩,<- t6,<- o2]
             have:=qcV (K:=K) (B':=C.B) (sz:=inf2.size) (k:=ck+rowsx.length) (t:=ct) (n:=0) (newCap:=cap) (rows:=rows++rowsx) (vs:=olds++news)
              (by rw[qCW];exact o1.append n1) (by simp[*,qBW]) (fun r hr=>by rcases qBb.1 hr with hr|hr;exact hrl1 r hr;exact rl2 r hr) (by rw[qCW,qCx,o4,n4];rfl)
              w2 hro (by simpa using hroom) (by show ct<K.nch;rwa[h.nch]) ⟨ck+rowsx.length,C.B,C.fin+news.length,C.cap,C.sz⟩ (if_pos rfl) rfl rfl t4
              (by simp only[qAY,o2,t6]) (by simp only[<- t7])
             simpa using this
           obtain⟨K',k1,k2,k3⟩:=qeA olds ct (ck+rowsx.length) U.T.length (U.T.set ct (some (ck+rowsx.length))) o1 o2 hrl1 o4
            (fun u k' eu=>by
              by_cases hu':u=ct
              . subst hu';simp[hctl]at eu;exact .inl ⟨rfl,eu.symm⟩
              rw[qAX (Ne.symm hu')]at eu;exact .inr ⟨hu',eu⟩)
            (by simp[hctl]) (fun u C' hu' hC'=>by obtain⟨k',hk'⟩:=h.chd u C' hC';exact⟨k',by rw[qAX (Ne.symm hu')];exact hk'⟩) (by simp) (by rw[h.nch];omega) hctl
            (fun _=>⟨C,c1,by omega⟩) cap
           have hr:=run_append_grow (P:=P) w t ty e inf2 z2 hu hi2 hz2 ⟨B,0,none⟩ rows.length cap olds o2 o3 ⟨B2,off2,none⟩ rowsx.length cap2 news n2 n3 (by omega) (by omega) (growslice_fits (by omega) hb48);exact⟨_,_,K',hr,k1,k2,k3⟩
         cases hf
       cases hf
     cases hf
   cases hf
 cases hf
end
section
variable {P:Program}{G:Nat->AV}{w0:World}{ro0:Nat->Nat->Option Value}{K:Kn}{U:St}{w w':World}
def W4{n}(h0:0<=n)(h1:n<=549755813888):IntKind.i64.wrap n=n:=by
 have:n%18446744073709551616=n:=Int.emod_eq_of_lt h0 (by omega);simp only[IntKind.wrap,IntKind.bits,IntKind.signed,qB7];simp only[show((2:Int)^(64:Nat))=18446744073709551616 from rfl,show((2:Int)^((64:Nat)-1))=9223372036854775808 from rfl,this];rw[if_neg (by simp;omega)]
def qwb{T:List (Option Nat)}{n:Nat}(u k':Nat)(eu:(T++[some n])[u]?=some (some k')):(u=T.length/\k'=n)\/(u≠T.length/\T[u]?=some (some k')):=by
 rw[qBO]at eu;split at eu
 . rename_i hu';exact .inr ⟨by omega,eu⟩
 rename_i hu';have:u-T.length=0:=by
  rcases qCh (u-T.length) with h0|h0
  . exact h0
  rw[qBs (by simp;omega)]at eu;cases eu
 rw[this]at eu;simp at eu;exact .inl ⟨by omega,eu.symm⟩
def Qg(h:WRel G w0 ro0 K U w){t l c v l' c'}(hl:qk K l l')(hc:qk K c c'){U'}(hf:qG (Dof P) U t l c=some (v,U')):
 Ran P G w0 ro0 K w (Instr.makeSlice t l' c') v U':=by
 unfold qG at hf;split at hf
 . rename_i i ln cn hD hln hcn;obtain⟨inf,d,z,hi,hu,_,rfl⟩:=qH hD;obtain⟨k1,rfl⟩:=yC hln hl;obtain⟨k2,rfl⟩:=yC hcn hc;simp only at hf;split at hf
   . rename_i e hd;have hd':=QZ hd;subst hd';split at hf
     . rename_i j hj;obtain⟨inf2,d2,z2,hi2,hu2,hz2,rfl⟩:=qH hj;simp only at hf;split at hf
       . rename_i hcond;obtain⟨b1,b2,b3,b4,b5,b6,b7⟩:=hcond;have hzs:z2.cells.size=inf2.size:=(by simpa using b6);have hwl:=W4 b1 (by omega);have hwc:=W4 (by omega) b3;have hcb:cn.toNat*inf2.bytes<=140737488355328:=by
          calc cn.toNat*inf2.bytes<=549755813888*256:=qCQ (by omega) b4
           _<=140737488355328:=by omega
         have hcb':(inf2.bytes:Int)*cn<=140737488355328:=by
          have:=Int.ofNat_le.2 hcb
          rwa[Int.natCast_mul,Int.toNat_of_nonneg (by omega),Int.mul_comm]at this
         have hlarge:¬(281474976710656<(inf2.bytes:Int)*cn):=(by omega);have hn0:∀n:Nat,n*inf2.size=0↔n=0:=by
          intro n;rw[Nat.mul_eq_zero];omega
         have hrun:(Instr.makeSlice t (.int k1 ln) (.int k2 cn)).run P w=.ok (.slice (some ⟨w.heap.size,0,none⟩) ln.toNat cn.toNat)
          (w.alloc (.cells ((Array.range (cn.toNat*inf2.size)).map (fun j=>(if cn.toNat*inf2.size=0 then #[] else z2.cells)[j%(if cn.toNat*inf2.size=0 then #[] else z2.cells).size]!)) e)):=by
          simp only[Instr.makeSlice,Sem.run_bind,run_underlying hu,Result.andThen_ok];have hnot:¬(cn<0):=(by omega);have hnl:¬(ln<0):=(by omega);have hnc:¬(ln > cn):=(by omega);by_cases hz:cn.toNat*inf2.size=0
          . simp[asInt,asIntOf,typeInfo,hi2,hwl,hwc,hlarge,hnot,hnl,hnc,askRoom,sizeOf,zeroValue,hz2,newRow,hz]
          simp[asInt,asIntOf,typeInfo,hi2,hwl,hwc,hlarge,hnot,hnl,hnc,askRoom,sizeOf,zeroValue,hz2,newRow,hz]
         split at hf
         . rename_i hl0;subst hl0;cases hf;obtain⟨w1,w2⟩:=h.chainNew [] ((Array.range (cn.toNat*inf2.size)).map (fun j=>(if cn.toNat*inf2.size=0 then #[] else z2.cells)[j%(if cn.toNat*inf2.size=0 then #[] else z2.cells).size]!)) e (by simp)
            U.T.length 0 (U.T.length+1) (U.T++[some 0]) qwb (by simp)
            (fun u C hu' hC=>by obtain⟨k',hk'⟩:=h.chd u C hC;exact⟨k',by rw[qBa (qAU.1 hk').1];exact hk'⟩) (by simp) (by rw[h.nch];omega)
            (fun hlt=>by rw[h.nch]at hlt;omega) inf2.size (by simp)
           refine⟨_,_,_,hrun,w2,w1,?_⟩;simp;refine .inr ⟨w.heap.size,0,cn.toNat,rfl,by simp,by simp[qT],?_⟩;refine⟨by show U.T.length<U.T.length+1;omega,fun C hC=>?_⟩;have:C=⟨0,w.heap.size,0,cn.toNat*inf2.size,inf2.size⟩:=by
            simp[Kn.setCh]at hC;exact hC.symm
           subst this;exact⟨qA5 _,fun _=>⟨rfl,by simp⟩⟩
         rename_i hl0;cases hf;have hcpos:¬cn.toNat*inf2.size=0:=(by rw[hn0];omega);rw[if_neg hcpos]at hrun;have hz0:=YS (K:=K) (z:=z2) (n:=cn.toNat) (by omega);rw[hzs]at hz0;refine⟨_,_,K.addM U.H.length w.heap.size (j9 _),hrun,qFC h _ _,h.push ?_,?_⟩
         . refine⟨_,e,rfl,?_,?_,?_⟩
           . rw[qA3];intro x hx;obtain⟨l,hl1,hl2⟩:=qBv.1 hx;rw[(qCL.1 hl1).2]at hl2;rw[qA3]at b7;exact b7 x hl2
           . have:ln.toNat*inf2.size<=cn.toNat*inf2.size:=qBU _ (by omega);simp[hzs];exact this
           . intro j a ea;have hjl:j<ln.toNat*inf2.size:=by
              have:=(qAU.1 ea).1;simpa[hzs] using this
             have hle:ln.toNat*inf2.size<=cn.toNat*inf2.size:=qBU _ (by omega);have hzl:(z2.cells.toList.map ofAtom).length=inf2.size:=(by simp[hzs]);rw[jV _ _ _ (by rwa[hzl])]at ea;have e2:((List.replicate cn.toNat (z2.cells.toList.map ofAtom)).flatten)[j]?=some a:=by
              rw[jV _ _ _ (by rw[hzl];omega)];exact ea
             obtain⟨v,e3,e4⟩:=hz0.get j a e2;refine⟨v,?_,e4⟩
             rwa[<- Array.getElem?_toList,hzs]
         simp only[qk];exact⟨w.heap.size,cn.toNat,by simp[Kn.addM],rfl,by omega,by omega,by simp[Kn.addM,j9,hzs]⟩
       cases hf
     cases hf
   cases hf
 cases hf
def qaI(h:WRel G w0 ro0 K U w)(t:Nat):Ran P G w0 ro0 K w (Instr.makeMap t none) (.map U.H.length) (U.push (.map [] 0)):=by
 refine⟨.map (some w.heap.size),w.alloc (.map #[] 0),K.addM U.H.length w.heap.size (j9 _),?_,qFC h _ _,h.push ?_,?_⟩
 . simp[Instr.makeMap]
 . exact⟨#[],by simp⟩
 simp only[qk];exact⟨w.heap.size,by simp[Kn.addM],rfl⟩
def ZV{k v}(h:zI (Dof P) k v=true):(∃kd kk n,P.underlying k=some (.int kd)/\v=.int kk n)\/(∃s,P.underlying k=some .string/\v=.str s)\/∃c tds,v=.agg c/\Wg (Dof P) k=some tds/\z9 tds c=true:=by
 unfold zI at h;split at h
 . rename_i i hD;obtain⟨inf,d,z,hi,hu,_,rfl⟩:=qH hD;simp only at h;split at h
   . rename_i kd kk n hd;exact .inl ⟨kd,kk,n,by rw[hu,JW hd],rfl⟩
   . rename_i s hd;exact .inr (.inl ⟨s,by rw[hu,vY hd],rfl⟩)
   . rename_i c hd;obtain⟨tds,h1,h2⟩:=(Option.any_eq_true _ _).1 h;exact .inr (.inr ⟨c,tds,rfl,h1,h2⟩)
   cases h
 cases h
def Qw {b m cs K} : ∀ (fs : List Field) (k : Nat) (as), (∀ f ∈ fs, kv (Dof P) f.type = true ∧ f.name ≠ "_") → fs.map (·.offset) = List.range' k fs.length → as.length = fs.length → ql K as (cs.toList.drop k) →
 (forIn fs PUnit.unit (fun f (_:PUnit)=>
   if f.name ≠ "_" then do
    let x <- part f.type cs f.offset
    Instr.checkKey b (m+1) f.type x
    pure (ForInStep.yield PUnit.unit)
   else pure (ForInStep.yield PUnit.unit)):Sem PUnit).run P w=.ok PUnit.unit w
 |[],k,as,_,_,_,_=>by simp[pure]
 |f::fs,k,[],_,_,hl,_=>by simp at hl
 | f::fs,k,a::as,hf,ho,hl,hr=>by
  simp only[qA7,qBc,qC3,qC8]at ho;obtain⟨ho1,ho2⟩:=ho;simp only[ql]at hr;obtain⟨v,vr,e1,hv,hvr⟩:=hr;have hx:cs[k]?=some v:=by
   have:=qBM (xs:=cs.toList) (i:=k) (j:=0);rw[e1]at this;simpa using this.symm
  have hd:cs.toList.drop (k+1)=vr:=by
   rw[<- qEo,e1];rfl
  obtain⟨hp,hnm⟩:=hf f (by simp);obtain⟨inf,hi,hu⟩:=vt hp;have hagg:(isAgg f.type).run P w=.ok false w:=by
   rcases hu with hu|hu|⟨k,hu⟩<;>simp[isAgg,run_underlying hu]
  have ih:=Qw (b:=b) (m:=m) (cs:=cs) (K:=K) fs (k+1) as (fun x hx=>hf x (by simp[hx])) ho2 (by simpa using hl) (hd▸hvr);have hck:(Instr.checkKey b (m+1) f.type v).run P w=.ok () w:=by
   rw[Instr.checkKey];rcases hu with hu|hu|⟨k,hu⟩<;>simp[run_underlying hu]
  have hpt:(part f.type cs k).run P w=.ok v w:=by simp[part,hagg,hx]
  rw[List.forIn_cons];simp only[ne_eq,hnm,not_false_eq_true,if_true,Sem.run_bind,ho1,hpt,Result.andThen_ok,hck];exact ih
def Ya{k v v'}(h:zI (Dof P) k v=true)(hv:qk K v v')(b):(Instr.checkKey b 10000 k v').run P w=.ok () w:=by
 have e:Instr.checkKey b 10000 k v'=Instr.checkKey b (9998+1+1) k v':=rfl;rw[e,Instr.checkKey];generalize 9998=m;rcases ZV h with⟨kd,kk,n,hu,rfl⟩|⟨s,hu,rfl⟩|⟨c,tds,rfl,hfl,hfit⟩
 . simp only[qk]at hv;subst hv;simp[run_underlying hu]
 . simp only[qk]at hv;subst hv;simp[run_underlying hu]
 simp only[qk]at hv;obtain⟨cs,rfl,hcs⟩:=hv;obtain⟨fields,hu,hst,rfl,hpl,hoff⟩:=JA hfl;obtain⟨hl,hk⟩:=wE _ _ hfit;have:=Qw (P:=P) (w:=w) (b:=b) (m:=m) (cs:=cs) (K:=K) fields.toList 0 c hpl (by rw[hoff,qCP];simp) (by simpa using hl) (by simpa using hcs);simp only[Sem.run_bind,run_underlying hu,Result.andThen_ok];rw[<- Array.forIn_toList,this];rfl
def qd6(a b:List UInt8):((⟨a.toArray⟩:ByteArray) == ⟨b.toArray⟩)=(a==b):=by
 rw[beq_toListBytes,yY,yY]
def Zn{k:Nat}{x:AV}{x':Value}(hk:(∃kd kk n,P.underlying k=some (.int kd)/\x=.int kk n)\/∃s,P.underlying k=some .string/\x=.str s)(hx:qk K x x'):∀(es:List (AV×AV×Nat)) (es':List MapEntry) (i:Nat) (r:Option (Nat×AV)),es'.length=es.length ->
 (∀(j:Nat) (k v:AV) (b:Nat),es[j]?=some (k,v,b)->∃e:MapEntry,es'[j]?=some e/\qk K k e.key/\qk K v e.val/\e.born=b)->jS x es i=some r ->
 ∃ d r',P.underlying k=some d/\Instr.findNow d x' es' i=some r'/\(match r with
  |some (j,v)=>∃v',r'=some (j,v')/\qk K v v'/\i<=j/\∃e:MapEntry,es'[j-i]?=some e/\Instr.sameBits 10000 e.key x'=true
  |none=>r'=none)
 | [],[],i,r,_,_,hf=>by
  simp[jS]at hf;subst hf;rcases hk with⟨kd,kk,n,hu,rfl⟩|⟨s,hu,rfl⟩
  . exact⟨_,none,hu,rfl,rfl⟩
  exact⟨_,none,hu,rfl,rfl⟩
 |[],_::_,i,r,hl,_,hf=>by simp at hl
 |_::_,[],i,r,hl,_,hf=>by simp at hl
 | (k1,v1,b1)::es,e1::es',i,r,hl,he,hf=>by
  obtain⟨e0,h1,h2,h3,h4⟩:=he 0 k1 v1 b1 (by simp);simp at h1;subst h1;have ih:=Zn hk hx es es' (i+1);simp only[jS]at hf;have same:∀p,Q4 x k1=some p->∀d,P.underlying k=some d->Instr.sameNow d x' e1.key=some p/\(p=true->Instr.sameBits 10000 e1.key x'=true):=by
   intro p hp d hd;rcases hk with⟨kd,kk,n,hu,rfl⟩|⟨s,hu,rfl⟩
   . rw[hu]at hd;cases hd;cases k1<;>simp only[Q4]at hp<;>try(cases hp;done)
     split at hp
     . rename_i hkk;subst hkk;simp only[qBg]at hp;simp only[qk]at hx h2;rw[hx,h2];refine⟨by simp[Instr.sameNow,hp],fun ht=>?_⟩;rw[ht]at hp;have:n=_:=eq_of_beq hp;simp[Instr.sameBits,this]
     cases hp
   rw[hu]at hd;cases hd;cases k1<;>simp only[Q4]at hp<;>try(cases hp;done)
   simp only[qBg]at hp;simp only[qk]at hx h2;rw[hx,h2];refine⟨by simp[Instr.sameNow,qd6,hp],fun ht=>?_⟩;rw[ht]at hp;have:s=_:=eq_of_beq hp;simp[Instr.sameBits,qd6,this]
  split at hf
  . rename_i hke;simp only[qBg]at hf;subst hf;rcases hk with⟨kd,kk,n,hu,_⟩|⟨s,hu,_⟩
    all_goals
     obtain⟨s1,s2⟩:=same true hke _ hu;refine⟨_,some (i,e1.val),hu,by simp only[Instr.findNow,s1],e1.val,rfl,h3,qA5 _,e1,by simp,s2 rfl⟩
  . rename_i hke;obtain⟨d,r',g1,g2,g3⟩:=ih r (by simpa using hl) (fun j k v b e=>by simpa using he (j+1) k v b (by simpa using e)) hf;obtain⟨s1,_⟩:=same false hke d g1;refine⟨d,r',g1,by simp only[Instr.findNow,s1];exact g2,?_⟩
    cases r with
    |none=>exact g3
    | some jv=>
     obtain⟨j,v⟩:=jv;obtain⟨v',a1,a2,a3,e,a4,a5⟩:=g3;refine⟨v',a1,a2,by omega,e,?_,a5⟩;rw[show j-i=(j-(i+1))+1 by omega];simpa using a4
  cases hf
def Yb:∀{a b:List AV},jj a b=some true->a=b
 |[],[],_=>rfl
 |[],_::_,h=>by simp[jj]at h
 |_::_,[],h=>by simp[jj]at h
 | x::a,y::b,h=>by
  simp only[jj]at h;split at h
  . rename_i p q hp hq;simp only[qBg,qA1]at h;rw[h.1]at hp;rw[h.2]at hq;rw[Yb hq];cases x<;>cases y<;>simp only[kV]at hp<;>first|(cases hp;done)|skip
    . simp at hp;rw[hp]
    . split at hp
      . rename_i e;subst e;simp at hp;rw[hp]
      . cases hp
    simp at hp;rw[hp]
  cases h
def Q8{m}:∀{tds:List TD}{a:List AV}{x y:List Value},z9 tds a=true->ql K a x->ql K a y->x.length=y.length/\((x.zip y).all fun(u,v)=>Instr.sameBits m u v)=true
 |[],[],_,_,_,hx,hy=>by simp only[ql]at hx hy;subst hx hy;simp
 |[],_::_,_,_,h,_,_=>by simp[z9]at h
 |td::_,[],_,_,h,_,_=>by cases td<;>simp[z9]at h
 | td::tds,c::a,x,y,h,hx,hy=>by
  simp only[ql]at hx hy;obtain⟨u,x',rfl,hu,hx⟩:=hx;obtain⟨v,y',rfl,hv,hy⟩:=hy;have h2:z9 tds a=true/\Instr.sameBits m u v=true:=by
   cases td<;>cases c<;>simp[z9]at h<;>simp only[qk]at hu hv<;>subst hu hv<;>exact⟨h,by simp[Instr.sameBits,qd6]⟩
  obtain⟨i1,i2⟩:=Q8 (m:=m) h2.1 hx hy;exact⟨by simp[i1],by simp only[qEx,qCm,h2.2,qB7];exact i2⟩
def Wi{k c tds x'}(hfl:Wg (Dof P) k=some tds)(hfit:z9 tds c=true)(hx:qk K (.agg c) x'):∀(es:List (AV×AV×Nat)) (es':List MapEntry) (i) (r),es'.length=es.length ->
 (∀(j:Nat) (k v:AV) (b:Nat),es[j]?=some (k,v,b)->∃e:MapEntry,es'[j]?=some e/\qk K k e.key/\qk K v e.val/\e.born=b)->jS (.agg c) es i=some r ->
 ∃ r',(Instr.findAsking k x' es' i).run P w=.ok r' w/\(match r with
  |some (j,v)=>∃v',r'=some (j,v')/\qk K v v'/\i<=j/\∃e:MapEntry,es'[j-i]?=some e/\Instr.sameBits 10000 e.key x'=true
  |none=>r'=none)
 | [],[],i,r,_,_,hf=>by
  simp[jS]at hf;subst hf;exact⟨none,rfl,rfl⟩
 |[],_::_,i,r,hl,_,hf=>by simp at hl
 |_::_,[],i,r,hl,_,hf=>by simp at hl
 | (k1,v1,b1)::es,e1::es',i,r,hl,he,hf=>by
  obtain⟨e0,h1,h2,h3,h4⟩:=he 0 k1 v1 b1 (by simp);simp at h1;subst h1;have ih:=Wi hfl hfit hx es es' (i+1);simp only[jS]at hf;have same:∀p,Q4 (.agg c) k1=some p->(Op.equal k x' e1.key).run P w=.ok p w/\(p=true->Instr.sameBits 10000 e1.key x'=true):=by
   intro p hp;cases k1<;>simp only[Q4]at hp<;>try(cases hp;done)
   rename_i d;simp only[qk]at hx h2;obtain⟨xs,rfl,hxs⟩:=hx;obtain⟨ys,hy,hys⟩:=h2;rw[hy];refine⟨?_,fun ht=>?_⟩
   . refine(Wp (t:=k) (a:=c) (b:=d) ?_ hxs hys).2;simp only[qa2,hfl,if_pos hfit,hp]
   subst ht;have:=Yb hp;subst this;obtain⟨g1,g2⟩:=Q8 (m:=9999) hfit hys hxs;show(ys.size==xs.size&&_)=true;simp only[qCs]at g1;rw[g1,beq_self_eq_true,qB7];exact g2
  split at hf
  . rename_i hke;simp only[qBg]at hf;subst hf;obtain⟨s1,s2⟩:=same true hke;exact⟨some (i,e1.val),by simp[Instr.findAsking,s1],e1.val,rfl,h3,qA5 _,e1,by simp,s2 rfl⟩
  . rename_i hke;obtain⟨r',g2,g3⟩:=ih r (by simpa using hl) (fun j k v b e=>by simpa using he (j+1) k v b (by simpa using e)) hf;obtain⟨s1,_⟩:=same false hke;refine⟨r',by simp[Instr.findAsking,s1];exact g2,?_⟩
    cases r with
    |none=>exact g3
    | some jv=>
     obtain⟨j,v⟩:=jv;obtain⟨v',a1,a2,a3,e,a4,a5⟩:=g3;refine⟨v',a1,a2,by omega,e,?_,a5⟩;rw[show j-i=(j-(i+1))+1 by omega];simpa using a4
  cases hf
def vC{k:Nat}{x:AV}{x':Value}(hk:zI (Dof P) k x=true)(hx:qk K x x')(es:List (AV×AV×Nat))(es':List MapEntry)(r:Option (Nat×AV))(hl:es'.length=es.length)
 (he:∀(j:Nat) (k v:AV) (b:Nat),es[j]?=some (k,v,b)->∃e:MapEntry,es'[j]?=some e/\qk K k e.key/\qk K v e.val/\e.born=b) (hf:jS x es 0=some r):
 ∃ r',(Instr.findKey k x' es').run P w=.ok r' w/\(match r with
  |some (j,v)=>∃v',r'=some (j,v')/\qk K v v'/\∃e:MapEntry,es'[j]?=some e/\Instr.sameBits 10000 e.key x'=true
  |none=>r'=none):=by
 rcases ZV hk with h|h|⟨c,tds,rfl,hfl,hfit⟩
 . obtain⟨d,r',g1,g2,g3⟩:=Zn (.inl h) hx es es' 0 r hl he hf;refine⟨r',by simp only[Instr.findKey,Sem.run_bind,run_underlying g1,Result.andThen_ok,g2];rfl,?_⟩
   cases r with
   |none=>exact g3
   |some jv=>obtain⟨v',a1,a2,_,e,a4,a5⟩:=g3;exact⟨v',a1,a2,e,by simpa using a4,a5⟩
 . obtain⟨d,r',g1,g2,g3⟩:=Zn (.inr h) hx es es' 0 r hl he hf;refine⟨r',by simp only[Instr.findKey,Sem.run_bind,run_underlying g1,Result.andThen_ok,g2];rfl,?_⟩
   cases r with
   |none=>exact g3
   |some jv=>obtain⟨v',a1,a2,_,e,a4,a5⟩:=g3;exact⟨v',a1,a2,e,by simpa using a4,a5⟩
 obtain⟨r',g2,g3⟩:=Wi (w:=w) hfl hfit hx es es' 0 r hl he hf;obtain⟨fields,hu,_⟩:=JA hfl;refine⟨r',?_,?_⟩
 . simp only[Instr.findKey,Sem.run_bind,run_underlying hu,Result.andThen_ok]
   cases es' with
   |nil=>simpa[Instr.findNow,Instr.findAsking] using g2
   | cons e es'=>
    have:Instr.findNow (.struct fields) x' (e::es') 0=none:=by
     simp only[qk]at hx;obtain⟨xs,rfl,_⟩:=hx;simp[Instr.findNow,Instr.sameNow]
    rwa[this]
 cases r with
 |none=>exact g3
 |some jv=>obtain⟨v',a1,a2,_,e,a4,a5⟩:=g3;exact⟨v',a1,a2,e,by simpa using a4,a5⟩
def qcE(h:WRel G w0 ro0 K U w){t m k v m' k'}(hm:qk K m m')(hk:qk K k k'){ok}(hf:zD (Dof P) U t m k ok=some v):
 ∃v',(Instr.lookup t m' k' ok).run P w=.ok v' w/\qk K v v':=by
 unfold zD at hf;split at hf
 . rename_i i hD;obtain⟨inf,d,z,hi,hu,_,rfl⟩:=qH hD;simp only at hf;split at hf
   . rename_i kt et hd;have:=qbR hd;subst this;split at hf
     . rename_i hko;split at hf
       . rename_i es hes
         -- the entries,as they lie
         have hent:∃es':Array MapEntry,((m'=.map none/\es' = #[])\/∃B clock,m'=.map (some B)/\(getObj B).run P w=.ok (.map es' clock) w)/\es'.toList.length=es.length /\
          ∀(j:Nat) (k v:AV) (b:Nat),es[j]?=some (k,v,b)->∃e:MapEntry,es'.toList[j]?=some e/\qk K k e.key/\qk K v e.val/\e.born=b:=by
          split at hes
          . cases hes;simp only[qk]at hm;subst hm;exact⟨#[],.inl ⟨rfl,rfl⟩,by simp⟩
          . rename_i b;split at hes
            . rename_i es0 clock hb;cases hes;simp only[qk]at hm;obtain⟨B,hm1,rfl⟩:=hm;obtain⟨B',h1,_,_,⟨es',h4,h5,h6⟩,_⟩:=h.blk b _ hb;rw[hm1]at h1;cases h1;exact⟨es',.inr ⟨B,clock,rfl,by simp[getObj,Sem.run,h4]⟩,by simpa using h5,fun j k v b e=>by simpa using h6 j k v b e⟩
            cases hes
          cases hes
         obtain⟨es',e1,e2,e3⟩:=hent;have hck:=fun b=>Ya (P:=P) (w:=w) hko hk b
         split at hf
         . rename_i idx v0 hfa;cases hf;obtain⟨r',g2,v',rfl,g4,_⟩:=vC (w:=w) hko hk es es'.toList _ e2 e3 hfa;refine⟨if ok then .tuple #[v',.bool true] else v',?_,by split<;>simp[qk,ql,g4]⟩;rcases e1 with⟨rfl,rfl⟩|⟨B,clock,rfl,e1⟩
           . simp only[Instr.lookup,Sem.run_bind,run_underlying hu,Result.andThen_ok];simp only[pure,Sem.run,Result.andThen_ok,hck,g2,Sem.run_bind]
           simp only[Instr.lookup,Sem.run_bind,run_underlying hu,Result.andThen_ok,e1];simp only[pure,Sem.run,Result.andThen_ok,hck,g2,Sem.run_bind]
         . rename_i hfa;obtain⟨zv,hz,rfl⟩:=qA2.1 hf;obtain⟨r',g2,g3⟩:=vC (w:=w) hko hk es es'.toList _ e2 e3 hfa;simp only at g3;subst g3;unfold qbx at hz;split at hz
           . rename_i j hj;obtain⟨inf2,d2,z2,hi2,hu2,hz2,rfl⟩:=qH hj;cases hz;have hzr:=qk.ofV K z2;refine⟨if ok then .tuple #[z2,.bool false] else z2,?_,by split<;>simp[qk,ql,hzr]⟩;rcases e1 with⟨rfl,rfl⟩|⟨B,clock,rfl,e1⟩
             . simp only[Instr.lookup,Sem.run_bind,run_underlying hu,Result.andThen_ok];simp only[pure,Sem.run,Result.andThen_ok,hck,g2,Sem.run_bind];simp[*,zeroValue,typeInfo]
             simp only[Instr.lookup,Sem.run_bind,run_underlying hu,Result.andThen_ok,e1];simp only[pure,Sem.run,Result.andThen_ok,hck,g2,Sem.run_bind];simp[*,zeroValue,typeInfo]
           cases hz
         cases hf
       cases hf
     cases hf
   cases hf
 cases hf
def KO(h:WRel G w0 ro0 K U w){t m k v m' k' v'}(hm:qk K m m')(hk:qk K k k')(hv:qk K v v'){U'}(hf:zj (Dof P) U t m k v=some U'):
 ∃w',(Instr.mapUpdate t m' k' v').run P w=.ok () w'/\WRel G w0 ro0 K U' w':=by
 unfold zj at hf;split at hf
 . rename_i i hD;obtain⟨inf,d,z,hi,hu,_,rfl⟩:=qH hD;simp only at hf;split at hf
   . rename_i kt et hd;have:=qbR hd;subst this;split at hf
     . rename_i hko;split at hf
       . rename_i b;split at hf
         . rename_i es clock hb;simp only[qk]at hm;obtain⟨B,hm1,rfl⟩:=hm;obtain⟨B',h1,hB0,hBl,⟨es',h4,h5,h6⟩,_⟩:=h.blk b _ hb;rw[hm1]at h1;cases h1;have hbl:=(qAU.1 hb).1;have hck:=Ya (P:=P) (w:=w) hko hk false;have hset:∀(o:Obj),(setObj B o).run P w=.ok () {w with heap:=w.heap.setIfInBounds B o}:=by
            intro o;simp[setObj,Sem.run,h4]
           have hkeep:∀o:Obj,(∀k,k≠B->({w with heap:=w.heap.setIfInBounds B o}:World).heap[k]?=w.heap[k]?):=by
            intro o k hk;simp[qDw (Ne.symm hk)]
           split at hf
           . rename_i idx v0 hfa;cases hf;obtain⟨r',g2,v1,rfl,g4,e0,g5,g6⟩:=vC (w:=w) hko hk es es'.toList _ (by simpa using h5) (fun j k v b e=>by simpa using h6 j k v b e) hfa;refine⟨{w with heap:=w.heap.setIfInBounds B (.map (es'.modify idx fun e=>{e with key:=k',val:=v'}) clock)},?_,?_⟩
             . simp only[Instr.mapUpdate,Sem.run_bind,run_underlying hu,Result.andThen_ok];simp[getObj,Sem.run,h4,hck,g2,Instr.keyThatStays,show es'[idx]?=some e0 by simpa using g5,g6,hset]
             refine h.setBlk (B:=B) hbl hm1 rfl rfl rfl (by simp) (hkeep _) ?_ (by rw[hb];simp) (fun cs2 el2 fr2 e2=>by simp[hBl]at e2) (fun cs2 el2 fr2 e2=>by simp[hBl]at e2);refine⟨es'.modify idx fun e=>{e with key:=k',val:=v'},by simp[hBl],by simp[h5],?_⟩;intro j k2 v2 b2 e2;rw[qCR]at e2
             cases hj:es[j]? with
             |none=>simp[hj]at e2
             | some kvb=>
              obtain⟨k3,v3,b3⟩:=kvb;obtain⟨e,a1,a2,a3,a4⟩:=h6 j k3 v3 b3 hj;rw[hj]at e2;rw[Array.getElem?_modify,a1];by_cases hji:idx=j
              . simp only[if_pos hji,Option.map_eq_map,qDQ,qBg,qBh]at e2;obtain⟨rfl,rfl,rfl⟩:=e2;rw[if_pos hji];exact⟨_,rfl,hk,hv,a4⟩
              simp only[if_neg hji,Option.map_eq_map,qDQ,qBg,qBh]at e2;obtain⟨rfl,rfl,rfl⟩:=e2;rw[if_neg hji];exact⟨e,rfl,a2,a3,a4⟩
           . rename_i hfa;cases hf;obtain⟨r',g2,g3⟩:=vC (w:=w) hko hk es es'.toList _ (by simpa using h5) (fun j k v b e=>by simpa using h6 j k v b e) hfa;simp only at g3;subst g3;refine⟨{w with heap:=w.heap.setIfInBounds B (.map (es'.push {key:=k',val:=v',born:=clock}) (clock+1))},?_,?_⟩
             . simp only[Instr.mapUpdate,Sem.run_bind,run_underlying hu,Result.andThen_ok];simp[getObj,Sem.run,h4,hck,g2,hset]
             refine h.setBlk (B:=B) hbl hm1 rfl rfl rfl (by simp) (hkeep _) ?_ (by rw[hb];simp) (fun cs2 el2 fr2 e2=>by simp[hBl]at e2) (fun cs2 el2 fr2 e2=>by simp[hBl]at e2);refine⟨es'.push {key:=k',val:=v',born:=clock},by simp[hBl],by simp[h5],?_⟩;intro j k2 v2 b2 e2;rw[qBO]at e2;rw[Array.getElem?_push];split at e2
             . rename_i hj;rw[if_neg (by omega)];exact h6 j k2 v2 b2 e2
             rename_i hj;have:j-es.length=0:=by
              rcases qCh (j-es.length) with h0|h0
              . exact h0
              rw[qBs (by simp;omega)]at e2;cases e2
             rw[this]at e2;simp at e2;obtain⟨rfl,rfl,rfl⟩:=e2;rw[if_pos (by omega)];exact⟨_,rfl,hk,hv,rfl⟩
           cases hf
         cases hf
       cases hf
     cases hf
   cases hf
 cases hf
end
