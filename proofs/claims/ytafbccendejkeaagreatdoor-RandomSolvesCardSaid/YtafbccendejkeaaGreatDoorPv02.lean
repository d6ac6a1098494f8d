import Derived.Test.YtafbccendejkeaaGreatDoorPv01
import Derived.Laws.AppendOwn
import Derived.Deep.AppendSrc
import Derived.Lib.AppendZerosOnto
set_option linter.all false
set_option linter.defProp false
namespace Go.Abs
open Go Go.RowKit
section
variable {P:Program}{G:Nat->AV}{w0:World}{ro0:Nat->Nat->Option Value}{K:Kn}{U:St}{w w':World}
def kf{k:IntKind}{n:Int}{y:Nat}(h0:0<=n)(h1:n<=y)(c:BoundsCode):(Instr.sliceBound (.int k n) y c).run P w=.ok n.toNat w:=by
 simp[Instr.sliceBound,asIntOf,h0,h1]
def j6{isS}{len cap:Nat}{lo hi mx lo' hi' mx'}(hlo:∀a,lo=some a->∃v,lo'=some v/\qf K a v)(hlo0:lo=none->lo'=none)
 (hhi:∀a,hi=some a->∃v,hi'=some v/\qf K a v) (hhi0:hi=none->hi'=none) (hmx:∀a,mx=some a->∃v,mx'=some v/\qf K a v) (hmx0:mx=none->mx'=none)
 {l h} (el:zS lo 0=some l) (eh:zS hi len=some h)
 (hle:0<=l/\l<=h/\h<=len) (hlc:len<=cap) (em:∀a,mx=some a->vk a=some h/\hi.isSome):
 (Instr.sliceBounds isS len cap lo' hi' mx').run P w=.ok (l.toNat,h.toNat,if mx.isSome then h.toNat else cap) w:=by
 obtain⟨h1,h2,h3⟩:=hle;have hlb:∀c,(match lo' with|some v=>Instr.sliceBound v h.toNat c|none=>(pure 0:Sem Nat)).run P w=.ok l.toNat w:=by
  intro c
  cases lo with
  | none=>
   rw[hlo0 rfl];simp[zS]at el;subst el;simp
  | some a=>
   obtain⟨v,rfl,hv⟩:=hlo a rfl;obtain⟨k,rfl⟩:=yD el hv;exact kf h1 (by omega) c
 cases mx with
 | none=>
  rw[hmx0 rfl]
  cases hi with
  | none=>
   rw[hhi0 rfl];simp only[zS,qBu]at eh;subst eh;have:=hlb .sliceB
   cases hl':lo' with
   |none=>simp[hl']at this;simp[Instr.sliceBounds];omega
   |some v=>simp[hl']at this;simp[Instr.sliceBounds,this]
  | some a=>
   obtain⟨v,rfl,hv⟩:=hhi a rfl;obtain⟨k,rfl⟩:=yD eh hv;have hb:=fun c=>kf (P:=P) (w:=w) (k:=k) (n:=h) (y:=cap) (by omega) (by omega) c
   have:=hlb .sliceB
   cases hl':lo' with
   |none=>simp[hl']at this;simp[Instr.sliceBounds,hb];omega
   |some v=>simp[hl']at this;simp[Instr.sliceBounds,hb,this]
 | some a=>
  obtain⟨v,rfl,hv⟩:=hmx a rfl;obtain⟨e1,e2⟩:=em a rfl;obtain⟨k,rfl⟩:=yD e1 hv
  cases hi with
  |none=>simp at e2
  | some b=>
   obtain⟨u,rfl,hu⟩:=hhi b rfl;obtain⟨k',rfl⟩:=yD eh hu;have hb:=fun c=>kf (P:=P) (w:=w) (k:=k) (n:=h) (y:=cap) (by omega) (by omega) c
   have hb':=fun c=>kf (P:=P) (w:=w) (k:=k') (n:=h) (y:=h.toNat) (by omega) (by omega) c
   have:=hlb .slice3C
   cases hl':lo' with
   |none=>simp[hl']at this;simp[Instr.sliceBounds,hb,hb'];omega
   |some v=>simp[hl']at this;simp[Instr.sliceBounds,hb,hb',this]
def qS.sub{B sz rows off}(h:qS K B off sz rows)(l n):qS K B (off+l*sz) sz ((rows.take n).drop l):=by
 refine qF3 B sz _ _ fun i r e=>?_
 rw[qB8,qCj]at e;split at e
 . obtain⟨h1,h2,h3⟩:=qS.get B sz rows off h _ _ e;exact⟨h1,h2,by rw[qCl]at h3;rwa[qDb]⟩
 cases e
def qey{N env a}(hw:WRel G w0 ro0 K U w)(he:ERel K N env a)(o:Option Operand):
 (∀x,o.map (ev G env)=some x->∃v,o.map a.eval=some v/\qf K x v)/\(o.map (ev G env)=none->o.map a.eval=none):=by
 cases o with
 |none=>simp
 |some x=>exact⟨fun y e=>by simp at e;subst e;exact⟨_,rfl,Jh hw he x⟩,by simp⟩
def qjz{t:Nat}(hu:P.underlying t=some .string){s:List UInt8}{lo hi mx:Option AV}{lo' hi' mx':Option Value}(hlo:∀a,lo=some a->∃v,lo'=some v/\qf K a v)(hlo0:lo=none->lo'=none)
 (hhi:∀a,hi=some a->∃v,hi'=some v/\qf K a v) (hhi0:hi=none->hi'=none) (hmx0:mx=none->mx'=none)
 {v:AV} (hf:zl (.str s) lo hi mx=some v):∃v',(Instr.sliceAt t (.string ⟨s.toArray⟩) lo' hi' mx').run P w=.ok v' w/\qf K v v':=by
 unfold zl at hf;simp only at hf;split at hf
 . rename_i l h el eh;split at hf
   . rename_i hc;cases hf;rw[hmx0 rfl];have hb:=j6 (P:=P) (w:=w) (K:=K) (isS:=false) (len:=s.length) (cap:=s.length) hlo hlo0 hhi hhi0 (mx:=none) (mx':=none) (by simp) (by simp) el eh hc (qBl _) (by simp);refine⟨.string ⟨((s.take h.toNat).drop l.toNat).toArray⟩,?_,by simp[qf]⟩;simp only[qDH,qBE,if_false]at hb;simp only[Instr.sliceAt,Instr.slice,Sem.run_bind,run_underlying hu,Result.andThen_ok,ZM];simp only[qDH,qBE,if_false,Sem.run_bind,pure,Sem.run,Result.andThen_ok,hb];rw[qed]
   cases hf
 cases hf
def qm1{t e:Nat}(hu:P.underlying t=some (.slice e)){inf:TypeInfo}(hi2:P.info? e=some inf){sz:Nat}{rows:List (List AV)}{tok:Tok}(hsz:sz=inf.size\/rows=[])
 {x':Value} (hx:qf K (.sl sz rows tok) x')
 {lo hi mx:Option AV} {lo' hi' mx':Option Value} (hlo:∀a,lo=some a->∃v,lo'=some v/\qf K a v) (hlo0:lo=none->lo'=none)
 (hhi:∀a,hi=some a->∃v,hi'=some v/\qf K a v) (hhi0:hi=none->hi'=none) (hmx:∀a,mx=some a->∃v,mx'=some v/\qf K a v) (hmx0:mx=none->mx'=none)
 {v:AV} (hf:zl (.sl sz rows tok) lo hi mx=some v):∃v',(Instr.sliceAt t x' lo' hi' mx').run P w=.ok v' w/\qf K v v':=by
 unfold zl at hf;simp only at hf;split at hf
 . rename_i l h el eh;split at hf
   . rename_i hc;obtain⟨c1,c2,c3,c4⟩:=hc;cases hf;have hmm:∀a,mx=some a->vk a=some h/\hi.isSome:=by
      intro a ha;subst ha;simpa[ki] using c4
     simp only[qf]at hx;rcases hx with⟨⟨a0,rfl,ha0⟩,rfl,htok⟩|⟨B,off,cap,rfl,hcap,hrows,htok⟩
     . have hb:=j6 (P:=P) (w:=w) (K:=K) (isS:=true) (len:=0) (cap:=0) hlo hlo0 hhi hhi0 hmx hmx0 el (by simpa using eh) ⟨c1,c2,by simpa using c3⟩ (qBl _) hmm;have hl0:l.toNat=0:=(by simp at c3;omega);have hh0:h.toNat=0:=(by simp at c3;omega);rw[hl0,hh0]at hb;refine⟨.slice a0 0 0,?_,?_⟩
       . simp only[Instr.sliceAt,Instr.slice,Sem.run_bind,run_underlying hu,Result.andThen_ok,hb];cases a0<;>simp[sizeOf,typeInfo,hi2]
       simp only[qf];refine .inl ⟨⟨a0,rfl,?_⟩,by simp,?_⟩
       . rcases ha0 with rfl|rfl
         . exact .inl rfl
         . refine .inr ?_;rw[hl0,hh0];cases mx<;>simp[zU,Tok.known]
       rw[hl0,hh0];cases mx<;>cases tok<;>simp[zU,Tok.known,Tok.plain]<;>exact htok.elim
     have hb:=j6 (P:=P) (w:=w) (K:=K) (isS:=true) (len:=rows.length) (cap:=cap) hlo hlo0 hhi hhi0 hmx hmx0 el eh ⟨c1,c2,c3⟩ hcap hmm;have hM:h.toNat<=(if mx.isSome then h.toNat else cap):=(by split<;>omega);have hMc:(if mx.isSome then h.toNat else cap)<=cap:=(by split<;>omega);generalize hMe:(if mx.isSome then h.toNat else cap)=M at hb hM hMc;have hrl:((rows.take h.toNat).drop l.toNat).length=h.toNat-l.toNat:=(by simp;omega);refine⟨.slice (some ⟨B,if M=l.toNat then off else off+l.toNat*inf.size,none⟩) (h.toNat-l.toNat) (M-l.toNat),?_,?_⟩
     . simp only[Instr.sliceAt,Instr.slice,Sem.run_bind,run_underlying hu,Result.andThen_ok,hb];simp[sizeOf,typeInfo,hi2,jx];split<;>rfl
     simp only[qf];refine .inr ⟨B,_,M-l.toNat,by rw[hrl],by rw[hrl];omega,?_,?_⟩
     . by_cases he:M=l.toNat
       . have:(rows.take h.toNat).drop l.toNat=[]:=qBo (by rw[hrl];omega);rw[this];simp[qS]
       . rw[if_neg he];rcases hsz with hsz|hsz
         . rw[<- hsz];exact qS.sub hrows _ _
         subst hsz;simp[qS]
     rw[hrl]
     cases hms:mx.isSome with
     | true=>
      rw[hms]at hMe;simp only[if_true]at hMe;simp only[if_true,zU];by_cases hcn:True/\(0<rows.length\/tok.known=true)
      . rw[if_pos hcn];simp only[wz];omega
      rw[if_neg hcn];trivial
     | false=>
      rw[hms]at hMe;simp only[qBE,if_false]at hMe;simp only[qBE,if_false,zU]
      cases tok with
      |none=>trivial
      |nil=>trivial
      | tight=>
       by_cases hn:h.toNat=rows.length
       . simp only[if_pos hn,wz]at htok⊢;omega
       simp only[if_neg hn,wz]
      | chain ct ck=>
       by_cases hn:l.toNat=0/\h.toNat=rows.length
       . simp only[if_pos hn];obtain⟨h01,h02⟩:=hn;rw[h01,h02];simp only[qCY,qCB,qDM,ite_self,<- hMe];exact htok
       simp only[if_neg hn,wz]
   cases hf
 cases hf
def qm2{t e:Nat}(hu:P.underlying t=some (.slice e)){inf:TypeInfo}(hi2:P.info? e=some inf){b off len:Nat}
 {x':Value} (hx:qf K (.ms b off len inf.size) x')
 {lo hi mx:Option AV} {lo' hi' mx':Option Value} (hlo:∀a,lo=some a->∃v,lo'=some v/\qf K a v) (hlo0:lo=none->lo'=none)
 (hhi:∀a,hi=some a->∃v,hi'=some v/\qf K a v) (hhi0:hi=none->hi'=none) (hmx0:mx=none->mx'=none)
 {v:AV} (hf:zl (.ms b off len inf.size) lo hi mx=some v):∃v',(Instr.sliceAt t x' lo' hi' mx').run P w=.ok v' w/\qf K v v':=by
 unfold zl at hf;simp only at hf;split at hf
 . rename_i l h el eh;split at hf
   . rename_i hc;obtain⟨c1,c2,c3,c4⟩:=hc;cases hf;rw[hmx0 rfl];simp only[qf]at hx;obtain⟨B,cap,hm,rfl,hcap,hpos,hbs⟩:=hx;have hb:=j6 (P:=P) (w:=w) (K:=K) (isS:=true) (len:=len) (cap:=cap) hlo hlo0 hhi hhi0 (mx:=none) (mx':=none) (by simp) (by simp) el eh ⟨c1,c2,c3⟩ hcap (by simp);simp only[qDH,qBE,if_false]at hb;refine⟨.slice (some ⟨B,off+l.toNat*inf.size,none⟩) (h.toNat-l.toNat) (cap-l.toNat),?_,?_⟩
     . simp only[Instr.sliceAt,Instr.slice,Sem.run_bind,run_underlying hu,Result.andThen_ok,hb];simp[sizeOf,typeInfo,hi2,jx,show ¬cap=l.toNat by omega]
     simp only[qf];refine⟨B,cap-l.toNat,hm,rfl,by omega,by omega,?_⟩;have:cap*inf.size=l.toNat*inf.size+(cap-l.toNat)*inf.size:=by rw[<- qCl];congr 1;omega
     omega
   rename_i hc1;split at hf
   . rename_i hc;obtain⟨c1,c2⟩:=hc;cases hf;rw[hmx0 rfl];simp only[qf]at hx;obtain⟨B,cap,hm,rfl,hcap,hpos,hbs⟩:=hx;have hb:=j6 (P:=P) (w:=w) (K:=K) (isS:=true) (len:=len) (cap:=cap) hlo hlo0 hhi hhi0 (mx:=none) (mx':=none) (by simp) (by simp) el eh ⟨by omega,by omega,by omega⟩ hcap (by simp);simp only[qDH,qBE,if_false]at hb;refine⟨.slice (some (if cap=l.toNat then⟨B,off,none⟩ else⟨B,off+l.toNat*inf.size,none⟩)) (h.toNat-l.toNat) (cap-l.toNat),?_,?_⟩
     . simp only[Instr.sliceAt,Instr.slice,Sem.run_bind,run_underlying hu,Result.andThen_ok,hb];by_cases hcl:cap=l.toNat<;>simp[sizeOf,typeInfo,hi2,jx,hcl]
     have e0:h.toNat-l.toNat=0:=(by omega);simp only[qf];right;by_cases hcl:cap=l.toNat
     . exact⟨B,off,cap-l.toNat,by rw[if_pos hcl,e0];rfl,by simp,by simp[qS],by simp[wz]⟩
     exact⟨B,off+l.toNat*inf.size,cap-l.toNat,by rw[if_neg hcl,e0];rfl,by simp,by simp[qS],by simp[wz]⟩
   cases hf
 cases hf
def qkz(h:WRel G w0 ro0 K U w){t:Nat}{x v:AV}{x':Value}(hx:qf K x x')(ty:Nat)(hf:YT (Dof P) U t x=some v):
 ∃v',(Builtin.len_ #[t] ty #[x']).run P w=.ok v' w/\qf K v v':=by
 unfold YT at hf;split at hf
 . rename_i i hD;obtain⟨inf,d,z,hi,hu,_,rfl⟩:=qE hD;simp only at hf;split at hf
   . rename_i s hd;have:=Qa hd;subst this;cases hf;simp only[qf]at hx;subst hx;exact⟨.int .i64 s.length,by simp[Builtin.len_,run_underlying hu,goInt,ZM],by simp[qf]⟩
   . rename_i e sz rows tok hd;have:=Q6 hd;subst this;cases hf;simp only[qf]at hx;rcases hx with⟨⟨a0,rfl,_⟩,rfl,_⟩|⟨B,off,cap,rfl,_⟩
     . exact⟨.int .i64 0,by simp[Builtin.len_,run_underlying hu,goInt],by simp[qf]⟩
     exact⟨.int .i64 rows.length,by simp[Builtin.len_,run_underlying hu,goInt],by simp[qf]⟩
   . rename_i e b off len sz hd;have:=Q6 hd;subst this;cases hf;simp only[qf]at hx;obtain⟨B,cap,hm,rfl,_⟩:=hx;exact⟨.int .i64 len,by simp[Builtin.len_,run_underlying hu,goInt],by simp[qf]⟩
   . rename_i n e hd;have:=qb3 hd;subst this;cases hf;exact⟨.int .i64 n,by simp[Builtin.len_,run_underlying hu,goInt],by simp[qf]⟩
   . rename_i k e hd;have:=qb2 hd;subst this;cases hf;simp only[qf]at hx;subst hx;exact⟨.int .i64 0,by simp[Builtin.len_,run_underlying hu,goInt],by simp[qf]⟩
   . rename_i k e b hd;have:=qb2 hd;subst this;split at hf
     . rename_i es clock hb;cases hf;simp only[qf]at hx;obtain⟨B,hm,rfl⟩:=hx;obtain⟨B',h1,_,_,⟨es',h4,h5,_⟩,_⟩:=h.blk b _ hb;rw[hm]at h1;cases h1;exact⟨.int .i64 es.length,by simp[Builtin.len_,run_underlying hu,goInt,getObj,Sem.run,h4,h5],by simp[qf]⟩
     cases hf
   cases hf
 cases hf
def qks{x y v:AV}{x' y':Value}(hx:qf K x x')(hy:qf K y y')(ts:Array Nat)(ty:Nat)(hf:w6 x y=some v):
 ∃v',(Builtin.min_ ts ty #[x',y']).run P w=.ok v' w/\qf K v v':=by
 unfold w6 at hf;split at hf
 . rename_i k a k' b;cases hf;simp only[qf]at hx hy;subst hx;subst hy;exact⟨.int k (if b<a then b else a),by simp[Builtin.min_,Builtin.min2],by simp[qf]⟩
 cases hf
def qh6{x y z v:AV}{x' y' z':Value}(hx:qf K x x')(hy:qf K y y')(hz:qf K z z')(ts:Array Nat)(ty:Nat)(hf:qkt x y z=some v):
 ∃v',(Builtin.min_ ts ty #[x',y',z']).run P w=.ok v' w/\qf K v v':=by
 unfold qkt at hf;split at hf
 . rename_i k a k' b k'' c;cases hf;simp only[qf]at hx hy hz;subst hx;subst hy;subst hz;exact⟨.int k (if c<(if b<a then b else a) then c else if b<a then b else a),by simp[Builtin.min_,Builtin.min2],by simp[qf]⟩
 cases hf
def qkv{x y v:AV}{x' y':Value}(hx:qf K x x')(hy:qf K y y')(ts:Array Nat)(ty:Nat)(hf:qnX x y=some v):
 ∃v',(Builtin.max_ ts ty #[x',y']).run P w=.ok v' w/\qf K v v':=by
 unfold qnX at hf;split at hf
 . rename_i k a k' b;cases hf;simp only[qf]at hx hy;subst hx;subst hy;exact⟨.int k (if b > a then b else a),by simp[Builtin.max_,Builtin.max2],by simp[qf]⟩
 cases hf
end
section
variable {P:Program}{G:Nat->AV}{w0:World}{ro0:Nat->Nat->Option Value}{K:Kn}{U:St}{w w':World}
def Yu(t ty e el)(i:TypeInfo)(ht:P.underlying t=some (.slice e))(hi:P.info? e=some i)
 (g sLen sCap cur) (hg:w.heap[g]?=some (.cells cur el (0,0)))
 (a:Addr) (m c news) (hl:news.length=m*i.size) (hnews:∀(j) (u),news[j]?=some u->w.cell? (a.add j)=some u) (h1:∀u∈news,u.oneCell'=true)
 (hroom:sLen+m<=sCap) (hfit:sLen*i.size+news.length<=cur.size):
 (Builtin.append_ #[t,t] ty #[.slice (some ⟨g,0,none⟩) sLen sCap,.slice (some a) m c]).run P w =
   .ok (.slice (some ⟨g,0,none⟩) (sLen+m) sCap) (w.setRow g (cur.toList.take (sLen*i.size)++news++cur.toList.drop (sLen*i.size+news.length)).toArray):=by
 have hf:=run_firstCells_some (P:=P) w i.size m a m c news hl hnews;have hst:=run_storeCells_at P g (sLen*i.size) el news 0 cur w hg (by simpa using hfit) h1;simp only[qCB]at hst;simp[Builtin.append_,run_underlying ht,sizeOf,typeInfo,hi,Builtin.lenOf,hroom,hf,Addr.add_lit,hst]
def wW(h:WRel G w0 ro0 K U w){B off sz rows}(hr:qS K B off sz rows):
 ∃ vs:List Value,qi K rows.flatten vs/\vs.length=rows.length*sz/\(∀(j) (v),vs[j]?=some v->w.cell? ((⟨B,off,none⟩:Addr).add j)=some v) /\
  rows.flatten.all AV.atom=true/\∀v∈vs,v.oneCell'=true:=by
 obtain⟨f1,f2,f3⟩:=qS.flat B sz rows off hr;obtain⟨vs,g1,g2⟩:=qF1 h.ro B _ off f1;exact⟨vs,g1,by rw[g1.length,f2],fun j v e=>by rw[jx];exact g2 j v e,f3,g1.oneCells f3⟩
def qaH{B off sz rows}(hr:qS K B off sz rows):∀r∈rows,r.length=sz:=by
 intro r hx;obtain⟨i,hi⟩:=qBT hx;exact(qS.get B sz rows off hr i r hi).1
def qc7{B' sz k t n newCap:Nat}{rows vs K'}(hv:qi K rows.flatten vs)(hl:vs.length=rows.length*sz)(hrl:∀r∈rows,r.length=sz)(hat:rows.flatten.all AV.atom=true)
 (hle:K.le K') (hro:∀(j) (v),vs[j]?=some v->K'.ro B' j=some v) (hcap:rows.length<=newCap) (ht:t<K'.nch) (C) (hC:K'.ch t=some C) (hCk:C.k=k) (hCB:C.B=B') (hCs:C.sz=sz)
 (hCf:C.fin=vs.length) (hCc:C.cap=newCap*sz):qf K' (.sl sz rows (.chain t k)) (.slice (some ⟨B',0,none⟩) rows.length newCap):=by
 simp only[qf];refine .inr ⟨B',0,newCap,rfl,hcap,Qe rows 0 hrl hat (qF2 B' _ 0 fun i a e=>?_),?_⟩
 . obtain⟨v,e1,e2⟩:=hv.get i a e;exact⟨v,by simpa using hro i v e1,e2.mono hle⟩
 refine⟨ht,fun C' hC'=>?_⟩;rw[hC]at hC';cases hC';exact⟨by omega,fun _=>⟨hCB,hCs,rfl,by rw[hCf,hl],hCc.symm⟩⟩
def qdE(h:WRel G w0 ro0 K U w){t:Nat}{s x v:AV}{s' x':Value}(hs:qf K s s')(hx:qf K x x')(ty:Nat){U':St}(hf:qr (Dof P) U t s x=some (v,U')):
 Ran P G w0 ro0 K w (Builtin.append_ #[t,t] ty #[s',x']) v U':=by
 unfold qr at hf;split at hf
 . rename_i i sz rows tok sz2 rows2 hD hro;obtain⟨inf,d,z,hi,hu,_,rfl⟩:=qE hD;simp only at hf;split at hf
   . rename_i e hd;have hd':=Q6 hd;subst hd';split at hf
     . rename_i j hj;obtain⟨inf2,d2,z2,hi2,hu2,hz2,rfl⟩:=qE hj;simp only at hf;split at hf
       . rename_i hc;obtain⟨hc1,hc2,hc3,hc4,hc5,hc6⟩:=hc;cases x<;>simp only[qZ]at hro<;>try(cases hro;done)
         rename_i szx rowsx tokx;simp only[qBu,qBs]at hro;obtain⟨rfl,rfl⟩:=hro;split at hf
         . -- nothing is appended
           rename_i hn;subst hn;simp only[qBu,qBs]at hf;obtain⟨rfl,rfl⟩:=hf;refine qFT h (v':=s') ?_ hs;have hx0:∃bx cx,x'=.slice bx 0 cx:=by
            simp only[qf]at hx;rcases hx with⟨⟨a0,rfl,_⟩,_⟩|⟨B2,off2,cap2,rfl,_⟩
            . exact⟨_,_,rfl⟩
            exact⟨_,_,rfl⟩
           obtain⟨bx,cx,rfl⟩:=hx0;have hf0:(Builtin.firstCells inf2.size 0 (.slice bx 0 cx)).run P w=.ok #[] w:=by
            cases bx<;>simp[Builtin.firstCells,loadCells,loadCellsFrom]
           simp only[qf]at hs;rcases hs with⟨⟨a0,rfl,_⟩,rfl,_⟩|⟨B,off,cap,rfl,hcap,_⟩
           . cases a0<;>simp[storeCells,Builtin.append_,run_underlying hu,sizeOf,typeInfo,hi2,Builtin.lenOf,hf0]
           simp[Builtin.append_,run_underlying hu,sizeOf,typeInfo,hi2,Builtin.lenOf,hcap,hf0,storeCells]
         rename_i hn;have hnpos:=qBv.2 hn;have hszx:=hc2.resolve_right hn;subst hszx;simp only[qf]at hx;rcases hx with⟨_,rfl,_⟩|⟨B2,off2,cap2,rfl,hcap2,hrows2,_⟩
         . exact absurd rfl hn
         obtain⟨news,n1,n2,n3,n4,n5⟩:=wW h hrows2;have hn48:rowsx.length*inf2.bytes<=140737488355328:=by
          calc rowsx.length*inf2.bytes<=549755813888*256:=qDn (by omega) hc5
           _<=140737488355328:=by omega
         have hb48:(rows.length+rowsx.length)*inf2.bytes<=140737488355328:=by
          calc (rows.length+rowsx.length)*inf2.bytes<=549755813888*256:=qDn hc6 hc5
           _<=140737488355328:=by omega
         have rl2:=qaH hrows2
         -- growth into a new block,from whatever is there
         have qeN:∀(olds:List Value) (tt k n:Nat) (T':List (Option Nat)),qi K rows.flatten olds->olds.length=rows.length*inf2.size->(∀r∈rows,r.length=inf2.size)->rows.flatten.all AV.atom=true ->
          (∀u k',T'[u]?=some (some k')->(u=tt/\k'=k)\/(u≠tt/\U.T[u]?=some (some k')))->T'[tt]?=some (some k)->(∀u C,u≠tt->K.ch u=some C->∃k',T'[u]?=some (some k'))->n=T'.length->K.nch<=n->tt<n ->
          (tt<K.nch->∃C,K.ch tt=some C/\C.k<k)->∀old:Nat,
          ∃ K',K.le K'/\WRel G w0 ro0 K' {U with T:=T'} (w.drew.alloc (.cells (olds.toArray++news.toArray++Builtin.zeroCells z2.cells (grownCap w (rows.length+rowsx.length) old e-(rows.length+rowsx.length))) e)) /\
           qf K' (.sl inf2.size (rows++rowsx) (.chain tt k)) (.slice (some ⟨w.heap.size,0,none⟩) (rows.length+rowsx.length) (grownCap w (rows.length+rowsx.length) old e)):=by
          intro olds tt k n T' o1 o2 rl1 oa hT hTt hTk hn' hnch htn hk old;have hge:=grownCap_ge w (rows.length+rowsx.length) old e;generalize hcapN:grownCap w (rows.length+rowsx.length) old e=newCap at hge;have hsize:(olds.toArray++news.toArray++Builtin.zeroCells z2.cells (newCap-(rows.length+rowsx.length))).size=newCap*inf2.size:=by
           simp only[Array.size_append,qEg,size_zeroCells,show z2.cells.size=inf2.size by simpa using hc4,o2,n2,<- qCl];congr 1;omega
          have hvl:(olds++news).length=(rows++rowsx).length*inf2.size:=(by simp[o2,n2,qCl]);obtain⟨w1,w2⟩:=h.drew.chainNew (olds++news) (olds.toArray++news.toArray++Builtin.zeroCells z2.cells (newCap-(rows.length+rowsx.length))) e
           (fun j v ev=>by
             have hjl:=(qBa.1 ev).1;rw[qDT (by simpa using hjl),<- ev];simp) tt k n T' hT hTt hTk hn' hnch hk inf2.size (by
              rw[hsize,hvl];simp only[qBe];exact qCh _ hge)
          refine⟨_,w2,w1,?_⟩;have:=qc7 (K:=K) (B':=w.heap.size) (sz:=inf2.size) (k:=k) (t:=tt) (n:=n) (newCap:=newCap) (rows:=rows++rowsx) (vs:=olds++news)
           (by rw[qCU];exact o1.append n1) hvl (fun r hr=>by rcases qBp.1 hr with hr|hr;exact rl1 r hr;exact rl2 r hr) (by rw[qCU,qCN,oa,n4];rfl)
           w2 (fun j v ev=>by
            have hjl:=(qBa.1 ev).1;show(if w.drew.heap.size=w.drew.heap.size/\0<=j/\j<0+(olds++news).length then(olds++news)[j-0]? else K.ro w.heap.size j)=some v;rw[if_pos ⟨rfl,by omega,by omega⟩];exact ev) (by simpa using hge) htn ⟨k,w.heap.size,(olds++news).length,(olds.toArray++news.toArray++Builtin.zeroCells z2.cells (newCap-(rows.length+rowsx.length))).size,inf2.size⟩ (if_pos rfl) rfl rfl rfl rfl hsize
          simpa using this
         split at hf
         . cases hf
         . -- the nil slice
           cases hf;simp only[qf]at hs;rcases hs with⟨⟨a0,rfl,ha0⟩,rfl,_⟩|⟨B,off,cap,rfl,hcap,hrows,htok⟩
           . obtain rfl:=ha0.resolve_right (by simp);obtain⟨K',k1,k2,k3⟩:=qeN [] U.T.length rowsx.length (U.T.length+1) (U.T++[some rowsx.length]) (by simp[qi]) (by simp) (by simp) (by simp)
              (fun u k' eu=>by
                rw[qCc]at eu;split at eu
                . rename_i hu';exact .inr ⟨by omega,eu⟩
                rename_i hu';have:u-U.T.length=0:=by
                 rcases qCC (u-U.T.length) with h0|h0
                 . exact h0
                 rw[qBI (by simp;omega)]at eu;cases eu
                rw[this]at eu;simp at eu;exact .inl ⟨by omega,eu.symm⟩)
              (by simp) (fun u C hu' hC=>by obtain⟨k',hk'⟩:=h.chd u C hC;exact⟨k',by rw[qBq (qBa.1 hk').1];exact hk'⟩) (by simp) (by rw[h.nch];omega) (by omega) (fun hlt=>by rw[h.nch]at hlt;omega) 0
             have hr:=run_append_nil (P:=P) w t ty e inf2 z2 hu hi2 hz2 ⟨B2,off2,none⟩ rowsx.length cap2 news n2 n3 hnpos (by omega) (by omega);simp only[qB0,qCH,qBy,Array.empty_append]at k2 k3;exact⟨_,_,K',hr,k1,k2,k3⟩
           simp only[wz]at htok
         . -- no spare room
           cases hf;have hT1:∀u k',(U.T++[some rowsx.length])[u]?=some (some k')->(u=U.T.length/\k'=rowsx.length)\/(u≠U.T.length/\U.T[u]?=some (some k')):=fun u k' eu=>by
            rw[qCc]at eu;split at eu
            . rename_i hu';exact .inr ⟨by omega,eu⟩
            rename_i hu';have:u-U.T.length=0:=by
             rcases qCC (u-U.T.length) with h0|h0
             . exact h0
             rw[qBI (by simp;omega)]at eu;cases eu
            rw[this]at eu;simp at eu;exact .inl ⟨by omega,eu.symm⟩
           have hT2:∀u C,u≠U.T.length->K.ch u=some C->∃k',(U.T++[some rowsx.length])[u]?=some (some k'):=fun u C hu' hC=>by
            obtain⟨k',hk'⟩:=h.chd u C hC;exact⟨k',by rw[qBq (qBa.1 hk').1];exact hk'⟩
           simp only[qf]at hs;rcases hs with⟨⟨a0,rfl,ha0⟩,rfl,_⟩|⟨B,off,cap,rfl,hcap,hrows,htok⟩
           . obtain rfl:=ha0.resolve_right (by simp);obtain⟨K',k1,k2,k3⟩:=qeN [] U.T.length rowsx.length (U.T.length+1) (U.T++[some rowsx.length]) (by simp[qi]) (by simp) (by simp) (by simp) hT1
              (by simp) hT2 (by simp) (by rw[h.nch];omega) (by omega) (fun hlt=>by rw[h.nch]at hlt;omega) 0
             have hr:=run_append_nil (P:=P) w t ty e inf2 z2 hu hi2 hz2 ⟨B2,off2,none⟩ rowsx.length cap2 news n2 n3 hnpos (by omega) (by omega);simp only[qB0,qCH,qBy,Array.empty_append]at k2 k3;exact⟨_,_,K',hr,k1,k2,k3⟩
           simp only[wz]at htok;subst htok;have hrl1:=qaH hrows;obtain⟨olds,o1,o2,o3,o4,o5⟩:=wW h hrows;have hszr:=hc1;have o2':olds.length=rows.length*inf2.size:=by
            rcases hszr with rfl|hr0
            . exact o2
            subst hr0;simpa using o2
           have hrl1':∀r∈rows,r.length=inf2.size:=by
            rcases hszr with rfl|hr0
            . exact hrl1
            subst hr0;simp
           obtain⟨K',k1,k2,k3⟩:=qeN olds U.T.length rowsx.length (U.T.length+1) (U.T++[some rowsx.length]) o1 o2' hrl1' o4 hT1
            (by simp) hT2 (by simp) (by rw[h.nch];omega) (by omega) (fun hlt=>by rw[h.nch]at hlt;omega) rows.length
           have hr:=run_append_grow (P:=P) w t ty e inf2 z2 hu hi2 hz2 ⟨B,off,none⟩ rows.length rows.length olds o2' o3 ⟨B2,off2,none⟩ rowsx.length cap2 news n2 n3 (by omega) (by omega) (growslice_fits (by omega) hb48);exact⟨_,_,K',hr,k1,k2,k3⟩
         -- a row with a free end
         rename_i ct ck;split at hf
         . rename_i hct;obtain⟨hszr,hct⟩:=hct;subst hszr;cases hf;simp only[qf]at hs;rcases hs with⟨_,_,hpl⟩|⟨B,off,cap,rfl,hcap,hrows,htok⟩
           . exact hpl.elim
           obtain⟨ht1,ht2⟩:=htok;obtain⟨C,c1,c2,c3,c4,⟨cs,el,c5,c6⟩,c7,c8⟩:=h.ch ct ck hct;obtain⟨_,t2⟩:=ht2 C c1;obtain⟨t3,t4,t5,t6,t7⟩:=t2 c2.symm;have hctl:=(qBa.1 hct).1;subst t5;have hrl1:=qaH hrows;obtain⟨olds,o1,o2,o3,o4,o5⟩:=wW h hrows;by_cases hroom:rows.length+rowsx.length<=cap
           . have hB:=t3;subst hB;have hmul:rows.length*inf2.size+rowsx.length*inf2.size<=cap*inf2.size:=(by rw[<- qCl];exact qCh _ hroom);have hr:=Yu (P:=P) (w:=w) t ty e el inf2 hu hi2 C.B rows.length cap cs c5 ⟨B2,off2,none⟩ rowsx.length cap2 news n2 n3 n5 hroom (by rw[n2,c6];omega);have hcsl:cs.toList.length=C.cap:=(by simpa using c6);have hmin:min (rows.length*inf2.size) cs.toList.length=rows.length*inf2.size:=(by omega);obtain⟨w1,w2⟩:=h.chainIn c1 (by rw[hct]) news (cs.toList.take (rows.length*inf2.size)++news++cs.toList.drop (rows.length*inf2.size+news.length)).toArray el (ck+rowsx.length) (by omega)
              (w':=w.setRow C.B (cs.toList.take (rows.length*inf2.size)++news++cs.toList.drop (rows.length*inf2.size+news.length)).toArray) rfl rfl rfl (by simp[World.setRow]) (fun j hj=>setRow_other w C.B j _ hj)
              (setRow_heap w C.B cs _ el _ c5) (by simp only[qEg,qBe,qBV,qC5,hmin,n2];omega) (by rw[n2];omega)
              (fun j v ev=>by
                have hjl:=(qBa.1 ev).1;rw[qDs,qBQ,qBm (by simp only[qBV,hmin];omega),qBq (by simp only[qBV,hmin];omega)];simp only[qBV,hmin,<- t6];rw[show rows.length*inf2.size+j-rows.length*inf2.size=j by omega];exact ev)
              (fun cs2 el2 e2 j hj=>by
                rw[c5]at e2;cases e2;rw[qDs,qBQ,qBq (by simp only[qBV,hmin];omega),qCj,if_pos (by omega)];simp)
             refine⟨_,_,_,hr,w2,w1,?_⟩;have hro:∀(j:Nat) (u:Value),(olds++news)[j]?=some u->((K.addRo C.B C.fin news).setCh ct ⟨ck+rowsx.length,C.B,C.fin+news.length,C.cap,C.sz⟩ K.nch).ro C.B j=some u:=by
              intro j u eu;show(if C.B=C.B/\C.fin<=j/\j<C.fin+news.length then news[j-C.fin]? else K.ro C.B j)=some u;rw[qCc]at eu;split at eu
              . rename_i hjl;rw[if_neg (by omega)];have hcol:=qS.flat C.B inf2.size rows 0 hrows;obtain⟨a0,ha0⟩:∃a0,rows.flatten[j]?=some a0:=⟨_,qBc (by rwa[<- o1.length])⟩;obtain⟨v0,e0,_⟩:=qn.get C.B _ 0 hcol.1 j a0 ha0;have hc0:=h.ro _ _ _ e0;have hu0:=o3 j u eu;rw[jx]at hu0;rw[hu0]at hc0;rw[hc0];simpa using e0
              rename_i hjl;have hjl2:=(qBa.1 eu).1
              rwa[if_pos ⟨rfl,by omega,by omega⟩,<- t6,<- o2]
             have:=qc7 (K:=K) (B':=C.B) (sz:=inf2.size) (k:=ck+rowsx.length) (t:=ct) (n:=0) (newCap:=cap) (rows:=rows++rowsx) (vs:=olds++news)
              (by rw[qCU];exact o1.append n1) (by simp[o2,n2,qCl]) (fun r hr=>by rcases qBp.1 hr with hr|hr;exact hrl1 r hr;exact rl2 r hr) (by rw[qCU,qCN,o4,n4];rfl)
              w2 hro (by simpa using hroom) (by show ct<K.nch;rwa[h.nch]) ⟨ck+rowsx.length,C.B,C.fin+news.length,C.cap,C.sz⟩ (if_pos rfl) rfl rfl t4
              (by simp only[qBe,o2,t6]) (by simp only[<- t7])
             simpa using this
           obtain⟨K',k1,k2,k3⟩:=qeN olds ct (ck+rowsx.length) U.T.length (U.T.set ct (some (ck+rowsx.length))) o1 o2 hrl1 o4
            (fun u k' eu=>by
              by_cases hu':u=ct
              . subst hu';simp[hctl]at eu;exact .inl ⟨rfl,eu.symm⟩
              rw[qBd (Ne.symm hu')]at eu;exact .inr ⟨hu',eu⟩)
            (by simp[hctl]) (fun u C' hu' hC'=>by obtain⟨k',hk'⟩:=h.chd u C' hC';exact⟨k',by rw[qBd (Ne.symm hu')];exact hk'⟩) (by simp) (by rw[h.nch];omega) hctl
            (fun _=>⟨C,c1,by omega⟩) cap
           have hr:=run_append_grow (P:=P) w t ty e inf2 z2 hu hi2 hz2 ⟨B,0,none⟩ rows.length cap olds o2 o3 ⟨B2,off2,none⟩ rowsx.length cap2 news n2 n3 (by omega) (by omega) (growslice_fits (by omega) hb48);exact⟨_,_,K',hr,k1,k2,k3⟩
         cases hf
       cases hf
     cases hf
   cases hf
 cases hf
end
section
variable {P:Program}{G:Nat->AV}{w0:World}{ro0:Nat->Nat->Option Value}{K:Kn}{U:St}{w w':World}
def Vd{n}(h0:0<=n)(h1:n<=549755813888):IntKind.i64.wrap n=n:=by
 have:n%18446744073709551616=n:=Int.emod_eq_of_lt h0 (by omega);simp only[IntKind.wrap,IntKind.bits,IntKind.signed,qCs];simp only[show((2:Int)^(64:Nat))=18446744073709551616 from rfl,show((2:Int)^((64:Nat)-1))=9223372036854775808 from rfl,this];rw[if_neg (by simp;omega)]
def qwo{T:List (Option Nat)}{n:Nat}(u k':Nat)(eu:(T++[some n])[u]?=some (some k')):(u=T.length/\k'=n)\/(u≠T.length/\T[u]?=some (some k')):=by
 rw[qCc]at eu;split at eu
 . rename_i hu';exact .inr ⟨by omega,eu⟩
 rename_i hu';have:u-T.length=0:=by
  rcases qCC (u-T.length) with h0|h0
  . exact h0
  rw[qBI (by simp;omega)]at eu;cases eu
 rw[this]at eu;simp at eu;exact .inl ⟨by omega,eu.symm⟩
def Qk(h:WRel G w0 ro0 K U w){t l c v l' c'}(hl:qf K l l')(hc:qf K c c'){U'}(hf:qD (Dof P) U t l c=some (v,U')):
 Ran P G w0 ro0 K w (Instr.makeSlice t l' c') v U':=by
 unfold qD at hf;split at hf
 . rename_i i ln cn hD hln hcn;obtain⟨inf,d,z,hi,hu,_,rfl⟩:=qE hD;obtain⟨k1,rfl⟩:=yD hln hl;obtain⟨k2,rfl⟩:=yD hcn hc;simp only at hf;split at hf
   . rename_i e hd;have hd':=Q6 hd;subst hd';split at hf
     . rename_i j hj;obtain⟨inf2,d2,z2,hi2,hu2,hz2,rfl⟩:=qE hj;simp only at hf;split at hf
       . rename_i hcond;obtain⟨b1,b2,b3,b4,b5,b6,b7⟩:=hcond;have hzs:z2.cells.size=inf2.size:=(by simpa using b6);have hwl:=Vd b1 (by omega);have hwc:=Vd (by omega) b3;have hcb:cn.toNat*inf2.bytes<=140737488355328:=by
          calc cn.toNat*inf2.bytes<=549755813888*256:=qDn (by omega) b4
           _<=140737488355328:=by omega
         have hcb':(inf2.bytes:Int)*cn<=140737488355328:=by
          have:=Int.ofNat_le.2 hcb
          rwa[Int.natCast_mul,Int.toNat_of_nonneg (by omega),Int.mul_comm]at this
         have hlarge:¬(281474976710656<(inf2.bytes:Int)*cn):=(by omega);have hn0:∀n:Nat,n*inf2.size=0↔n=0:=by
          intro n;rw[Nat.mul_eq_zero];omega
         have hrun:(Instr.makeSlice t (.int k1 ln) (.int k2 cn)).run P w=.ok (.slice (some ⟨w.heap.size,0,none⟩) ln.toNat cn.toNat)
          (w.alloc (.cells ((Array.range (cn.toNat*inf2.size)).map (fun j=>(if cn.toNat*inf2.size=0 then #[] else z2.cells)[j%(if cn.toNat*inf2.size=0 then #[] else z2.cells).size]!)) e)):=by
          simp only[Instr.makeSlice,Sem.run_bind,run_underlying hu,Result.andThen_ok];have hnot:¬(cn<0):=(by omega);have hnl:¬(ln<0):=(by omega);have hnc:¬(ln > cn):=(by omega);by_cases hz:cn.toNat*inf2.size=0
          . simp[asInt,asIntOf,typeInfo,hi2,hwl,hwc,hlarge,hnot,hnl,hnc,askRoom,sizeOf,zeroValue,hz2,newRow,hz]
          simp[asInt,asIntOf,typeInfo,hi2,hwl,hwc,hlarge,hnot,hnl,hnc,askRoom,sizeOf,zeroValue,hz2,newRow,hz]
         split at hf
         . rename_i hl0;subst hl0;cases hf;obtain⟨w1,w2⟩:=h.chainNew [] ((Array.range (cn.toNat*inf2.size)).map (fun j=>(if cn.toNat*inf2.size=0 then #[] else z2.cells)[j%(if cn.toNat*inf2.size=0 then #[] else z2.cells).size]!)) e (by simp)
            U.T.length 0 (U.T.length+1) (U.T++[some 0]) qwo (by simp)
            (fun u C hu' hC=>by obtain⟨k',hk'⟩:=h.chd u C hC;exact⟨k',by rw[qBq (qBa.1 hk').1];exact hk'⟩) (by simp) (by rw[h.nch];omega)
            (fun hlt=>by rw[h.nch]at hlt;omega) inf2.size (by simp)
           refine⟨_,_,_,hrun,w2,w1,?_⟩;simp only[qf];refine .inr ⟨w.heap.size,0,cn.toNat,rfl,by simp,by simp[qS],?_⟩;refine⟨by show U.T.length<U.T.length+1;omega,fun C hC=>?_⟩;have:C=⟨0,w.heap.size,0,cn.toNat*inf2.size,inf2.size⟩:=by
            simp[Kn.setCh]at hC;exact hC.symm
           subst this;exact⟨qBl _,fun _=>⟨rfl,by simp⟩⟩
         rename_i hl0;cases hf;have hcpos:¬cn.toNat*inf2.size=0:=(by rw[hn0];omega);rw[if_neg hcpos]at hrun;have hz0:=Y7 (K:=K) (z:=z2) (n:=cn.toNat) (by omega);rw[hzs]at hz0;refine⟨_,_,K.addM U.H.length w.heap.size (j9 _),hrun,qFM h _ _,h.push ?_,?_⟩
         . refine⟨_,e,rfl,?_,?_,?_⟩
           . rw[qBk];intro x hx;obtain⟨l,hl1,hl2⟩:=qBH.1 hx;rw[(qC4.1 hl1).2]at hl2;rw[qBk]at b7;exact b7 x hl2
           . have:ln.toNat*inf2.size<=cn.toNat*inf2.size:=qCh _ (by omega);simp[hzs];exact this
           . intro j a ea;have hjl:j<ln.toNat*inf2.size:=by
              have:=(qBa.1 ea).1;simpa[hzs] using this
             have hle:ln.toNat*inf2.size<=cn.toNat*inf2.size:=qCh _ (by omega);have hzl:(z2.cells.toList.map ofAtom).length=inf2.size:=(by simp[hzs]);rw[jZ _ _ _ (by rwa[hzl])]at ea;have e2:((List.replicate cn.toNat (z2.cells.toList.map ofAtom)).flatten)[j]?=some a:=by
              rw[jZ _ _ _ (by rw[hzl];omega)];exact ea
             obtain⟨v,e3,e4⟩:=hz0.get j a e2;refine⟨v,?_,e4⟩
             rwa[<- Array.getElem?_toList,hzs]
         simp only[qf];exact⟨w.heap.size,cn.toNat,by simp[Kn.addM],rfl,by omega,by omega,by simp[Kn.addM,j9,hzs]⟩
       cases hf
     cases hf
   cases hf
 cases hf
def qaX(h:WRel G w0 ro0 K U w)(t:Nat):Ran P G w0 ro0 K w (Instr.makeMap t none) (.map U.H.length) (U.push (.map [] 0)):=by
 refine⟨.map (some w.heap.size),w.alloc (.map #[] 0),K.addM U.H.length w.heap.size (j9 _),?_,qFM h _ _,h.push ?_,?_⟩
 . simp[Instr.makeMap]
 . exact⟨#[],by simp⟩
 simp only[qf];exact⟨w.heap.size,by simp[Kn.addM],rfl⟩
def Z7{k v}(h:zG (Dof P) k v=true):(∃kd kk n,P.underlying k=some (.int kd)/\v=.int kk n)\/(∃s,P.underlying k=some .string/\v=.str s)\/∃c tds,v=.agg c/\YA (Dof P) k=some tds/\zW tds c=true:=by
 unfold zG at h;split at h
 . rename_i i hD;obtain⟨inf,d,z,hi,hu,_,rfl⟩:=qE hD;simp only at h;split at h
   . rename_i kd kk n hd;exact .inl ⟨kd,kk,n,by rw[hu,J6 hd],rfl⟩
   . rename_i s hd;exact .inr (.inl ⟨s,by rw[hu,Qa hd],rfl⟩)
   . rename_i c hd;obtain⟨tds,h1,h2⟩:=(Option.any_eq_true _ _).1 h;exact .inr (.inr ⟨c,tds,rfl,h1,h2⟩)
   cases h
 cases h
def QA {b m cs K} : ∀ (fs : List Field) (k : Nat) (as), (∀ f ∈ fs, kl (Dof P) f.type = true ∧ f.name ≠ "_") → fs.map (·.offset) = List.range' k fs.length → as.length = fs.length → qi K as (cs.toList.drop k) →
 (forIn fs PUnit.unit (fun f (_:PUnit)=>
   if f.name ≠ "_" then do
    let x <- part f.type cs f.offset
    Instr.checkKey b (m+1) f.type x
    pure (ForInStep.yield PUnit.unit)
   else pure (ForInStep.yield PUnit.unit)):Sem PUnit).run P w=.ok PUnit.unit w
 |[],k,as,_,_,_,_=>by simp[pure]
 |f::fs,k,[],_,_,hl,_=>by simp at hl
 | f::fs,k,a::as,hf,ho,hl,hr=>by
  simp only[qBn,qBr,qCx,qDt]at ho;obtain⟨ho1,ho2⟩:=ho;simp only[qi]at hr;obtain⟨v,vr,e1,hv,hvr⟩:=hr;have hx:cs[k]?=some v:=by
   have:=qB8 (xs:=cs.toList) (i:=k) (j:=0);rw[e1]at this;simpa using this.symm
  have hd:cs.toList.drop (k+1)=vr:=by
   rw[<- qEw,e1];rfl
  obtain⟨hp,hnm⟩:=hf f (by simp);obtain⟨inf,hi,hu⟩:=vz hp;have hagg:(isAgg f.type).run P w=.ok false w:=by
   rcases hu with hu|hu|⟨k,hu⟩<;>simp[isAgg,run_underlying hu]
  have ih:=QA (b:=b) (m:=m) (cs:=cs) (K:=K) fs (k+1) as (fun x hx=>hf x (by simp[hx])) ho2 (by simpa using hl) (hd▸hvr);have hck:(Instr.checkKey b (m+1) f.type v).run P w=.ok () w:=by
   rw[Instr.checkKey];rcases hu with hu|hu|⟨k,hu⟩<;>simp[run_underlying hu]
  have hpt:(part f.type cs k).run P w=.ok v w:=by simp[part,hagg,hx]
  rw[List.forIn_cons];simp only[ne_eq,hnm,not_false_eq_true,if_true,Sem.run_bind,ho1,hpt,Result.andThen_ok,hck];exact ih
def Ym{k v v'}(h:zG (Dof P) k v=true)(hv:qf K v v')(b):(Instr.checkKey b 10000 k v').run P w=.ok () w:=by
 have e:Instr.checkKey b 10000 k v'=Instr.checkKey b (9998+1+1) k v':=rfl;rw[e,Instr.checkKey];generalize 9998=m;rcases Z7 h with⟨kd,kk,n,hu,rfl⟩|⟨s,hu,rfl⟩|⟨c,tds,rfl,hfl,hfit⟩
 . simp only[qf]at hv;subst hv;simp[run_underlying hu]
 . simp only[qf]at hv;subst hv;simp[run_underlying hu]
 simp only[qf]at hv;obtain⟨cs,rfl,hcs⟩:=hv;obtain⟨fields,hu,hst,rfl,hpl,hoff⟩:=JP hfl;obtain⟨hl,hk⟩:=wK _ _ hfit;have:=QA (P:=P) (w:=w) (b:=b) (m:=m) (cs:=cs) (K:=K) fields.toList 0 c hpl (by rw[hoff,qCd];simp) (by simpa using hl) (by simpa using hcs);simp only[Sem.run_bind,run_underlying hu,Result.andThen_ok];rw[<- Array.forIn_toList,this];rfl
def qee(a b:List UInt8):((⟨a.toArray⟩:ByteArray) == ⟨b.toArray⟩)=(a==b):=by
 rw[beq_toListBytes,yZ,yZ]
def Zy{k:Nat}{x:AV}{x':Value}(hk:(∃kd kk n,P.underlying k=some (.int kd)/\x=.int kk n)\/∃s,P.underlying k=some .string/\x=.str s)(hx:qf K x x'):∀(es:List (AV×AV×Nat)) (es':List MapEntry) (i:Nat) (r:Option (Nat×AV)),es'.length=es.length ->
 (∀(j:Nat) (k v:AV) (b:Nat),es[j]?=some (k,v,b)->∃e:MapEntry,es'[j]?=some e/\qf K k e.key/\qf K v e.val/\e.born=b)->jV x es i=some r ->
 ∃ d r',P.underlying k=some d/\Instr.findNow d x' es' i=some r'/\(match r with
  |some (j,v)=>∃v',r'=some (j,v')/\qf K v v'/\i<=j/\∃e:MapEntry,es'[j-i]?=some e/\Instr.sameBits 10000 e.key x'=true
  |none=>r'=none)
 | [],[],i,r,_,_,hf=>by
  simp[jV]at hf;subst hf;rcases hk with⟨kd,kk,n,hu,rfl⟩|⟨s,hu,rfl⟩
  . exact⟨_,none,hu,rfl,rfl⟩
  exact⟨_,none,hu,rfl,rfl⟩
 |[],_::_,i,r,hl,_,hf=>by simp at hl
 |_::_,[],i,r,hl,_,hf=>by simp at hl
 | (k1,v1,b1)::es,e1::es',i,r,hl,he,hf=>by
  obtain⟨e0,h1,h2,h3,h4⟩:=he 0 k1 v1 b1 (by simp);simp at h1;subst h1;have ih:=Zy hk hx es es' (i+1);simp only[jV]at hf;have same:∀p,Q8 x k1=some p->∀d,P.underlying k=some d->Instr.sameNow d x' e1.key=some p/\(p=true->Instr.sameBits 10000 e1.key x'=true):=by
   intro p hp d hd;rcases hk with⟨kd,kk,n,hu,rfl⟩|⟨s,hu,rfl⟩
   . rw[hu]at hd;cases hd;cases k1<;>simp only[Q8]at hp<;>try(cases hp;done)
     split at hp
     . rename_i hkk;subst hkk;simp only[qBu]at hp;simp only[qf]at hx h2;rw[hx,h2];refine⟨by simp[Instr.sameNow,hp],fun ht=>?_⟩;rw[ht]at hp;have:n=_:=eq_of_beq hp;simp[Instr.sameBits,this]
     cases hp
   rw[hu]at hd;cases hd;cases k1<;>simp only[Q8]at hp<;>try(cases hp;done)
   simp only[qBu]at hp;simp only[qf]at hx h2;rw[hx,h2];refine⟨by simp[Instr.sameNow,qee,hp],fun ht=>?_⟩;rw[ht]at hp;have:s=_:=eq_of_beq hp;simp[Instr.sameBits,qee,this]
  split at hf
  . rename_i hke;simp only[qBu]at hf;subst hf;rcases hk with⟨kd,kk,n,hu,_⟩|⟨s,hu,_⟩
    all_goals
     obtain⟨s1,s2⟩:=same true hke _ hu;refine⟨_,some (i,e1.val),hu,by simp only[Instr.findNow,s1],e1.val,rfl,h3,qBl _,e1,by simp,s2 rfl⟩
  . rename_i hke;obtain⟨d,r',g1,g2,g3⟩:=ih r (by simpa using hl) (fun j k v b e=>by simpa using he (j+1) k v b (by simpa using e)) hf;obtain⟨s1,_⟩:=same false hke d g1;refine⟨d,r',g1,by simp only[Instr.findNow,s1];exact g2,?_⟩
    cases r with
    |none=>exact g3
    | some jv=>
     obtain⟨j,v⟩:=jv;obtain⟨v',a1,a2,a3,e,a4,a5⟩:=g3;refine⟨v',a1,a2,by omega,e,?_,a5⟩;rw[show j-i=(j-(i+1))+1 by omega];simpa using a4
  cases hf
def Yn:∀{a b:List AV},je a b=some true->a=b
 |[],[],_=>rfl
 |[],_::_,h=>by simp[je]at h
 |_::_,[],h=>by simp[je]at h
 | x::a,y::b,h=>by
  simp only[je]at h;split at h
  . rename_i p q hp hq;simp only[qBu,qBf]at h;rw[h.1]at hp;rw[h.2]at hq;rw[Yn hq];cases x<;>cases y<;>simp only[kx]at hp<;>first|(cases hp;done)|skip
    . simp at hp;rw[hp]
    . split at hp
      . rename_i e;subst e;simp at hp;rw[hp]
      . cases hp
    simp at hp;rw[hp]
  cases h
def Zd{m}:∀{tds:List TD}{a:List AV}{x y:List Value},zW tds a=true->qi K a x->qi K a y->x.length=y.length/\((x.zip y).all fun(u,v)=>Instr.sameBits m u v)=true
 |[],[],_,_,_,hx,hy=>by simp only[qi]at hx hy;subst hx hy;simp
 |[],_::_,_,_,h,_,_=>by simp[zW]at h
 |td::_,[],_,_,h,_,_=>by cases td<;>simp[zW]at h
 | td::tds,c::a,x,y,h,hx,hy=>by
  simp only[qi]at hx hy;obtain⟨u,x',rfl,hu,hx⟩:=hx;obtain⟨v,y',rfl,hv,hy⟩:=hy;have h2:zW tds a=true/\Instr.sameBits m u v=true:=by
   cases td<;>cases c<;>simp[zW]at h<;>simp only[qf]at hu hv<;>subst hu hv<;>exact⟨h,by simp[Instr.sameBits,qee]⟩
  obtain⟨i1,i2⟩:=Zd (m:=m) h2.1 hx hy;exact⟨by simp[i1],by simp only[qEH,qCz,h2.2,qCs];exact i2⟩
def Wv{k c tds x'}(hfl:YA (Dof P) k=some tds)(hfit:zW tds c=true)(hx:qf K (.agg c) x'):∀(es:List (AV×AV×Nat)) (es':List MapEntry) (i) (r),es'.length=es.length ->
 (∀(j:Nat) (k v:AV) (b:Nat),es[j]?=some (k,v,b)->∃e:MapEntry,es'[j]?=some e/\qf K k e.key/\qf K v e.val/\e.born=b)->jV (.agg c) es i=some r ->
 ∃ r',(Instr.findAsking k x' es' i).run P w=.ok r' w/\(match r with
  |some (j,v)=>∃v',r'=some (j,v')/\qf K v v'/\i<=j/\∃e:MapEntry,es'[j-i]?=some e/\Instr.sameBits 10000 e.key x'=true
  |none=>r'=none)
 | [],[],i,r,_,_,hf=>by
  simp[jV]at hf;subst hf;exact⟨none,rfl,rfl⟩
 |[],_::_,i,r,hl,_,hf=>by simp at hl
 |_::_,[],i,r,hl,_,hf=>by simp at hl
 | (k1,v1,b1)::es,e1::es',i,r,hl,he,hf=>by
  obtain⟨e0,h1,h2,h3,h4⟩:=he 0 k1 v1 b1 (by simp);simp at h1;subst h1;have ih:=Wv hfl hfit hx es es' (i+1);simp only[jV]at hf;have same:∀p,Q8 (.agg c) k1=some p->(Op.equal k x' e1.key).run P w=.ok p w/\(p=true->Instr.sameBits 10000 e1.key x'=true):=by
   intro p hp;cases k1<;>simp only[Q8]at hp<;>try(cases hp;done)
   rename_i d;simp only[qf]at hx h2;obtain⟨xs,rfl,hxs⟩:=hx;obtain⟨ys,hy,hys⟩:=h2;rw[hy];refine⟨?_,fun ht=>?_⟩
   . refine(WC (t:=k) (a:=c) (b:=d) ?_ hxs hys).2;simp only[WD,hfl,if_pos hfit,hp]
   subst ht;have:=Yn hp;subst this;obtain⟨g1,g2⟩:=Zd (m:=9999) hfit hys hxs;show(ys.size==xs.size&&_)=true;simp only[qCv]at g1;rw[g1,beq_self_eq_true,qCs];exact g2
  split at hf
  . rename_i hke;simp only[qBu]at hf;subst hf;obtain⟨s1,s2⟩:=same true hke;exact⟨some (i,e1.val),by simp[Instr.findAsking,s1],e1.val,rfl,h3,qBl _,e1,by simp,s2 rfl⟩
  . rename_i hke;obtain⟨r',g2,g3⟩:=ih r (by simpa using hl) (fun j k v b e=>by simpa using he (j+1) k v b (by simpa using e)) hf;obtain⟨s1,_⟩:=same false hke;refine⟨r',by simp[Instr.findAsking,s1];exact g2,?_⟩
    cases r with
    |none=>exact g3
    | some jv=>
     obtain⟨j,v⟩:=jv;obtain⟨v',a1,a2,a3,e,a4,a5⟩:=g3;refine⟨v',a1,a2,by omega,e,?_,a5⟩;rw[show j-i=(j-(i+1))+1 by omega];simpa using a4
  cases hf
def vE{k:Nat}{x:AV}{x':Value}(hk:zG (Dof P) k x=true)(hx:qf K x x')(es:List (AV×AV×Nat))(es':List MapEntry)(r:Option (Nat×AV))(hl:es'.length=es.length)
 (he:∀(j:Nat) (k v:AV) (b:Nat),es[j]?=some (k,v,b)->∃e:MapEntry,es'[j]?=some e/\qf K k e.key/\qf K v e.val/\e.born=b) (hf:jV x es 0=some r):
 ∃ r',(Instr.findKey k x' es').run P w=.ok r' w/\(match r with
  |some (j,v)=>∃v',r'=some (j,v')/\qf K v v'/\∃e:MapEntry,es'[j]?=some e/\Instr.sameBits 10000 e.key x'=true
  |none=>r'=none):=by
 rcases Z7 hk with h|h|⟨c,tds,rfl,hfl,hfit⟩
 . obtain⟨d,r',g1,g2,g3⟩:=Zy (.inl h) hx es es' 0 r hl he hf;refine⟨r',by simp only[Instr.findKey,Sem.run_bind,run_underlying g1,Result.andThen_ok,g2];rfl,?_⟩
   cases r with
   |none=>exact g3
   |some jv=>obtain⟨v',a1,a2,_,e,a4,a5⟩:=g3;exact⟨v',a1,a2,e,by simpa using a4,a5⟩
 . obtain⟨d,r',g1,g2,g3⟩:=Zy (.inr h) hx es es' 0 r hl he hf;refine⟨r',by simp only[Instr.findKey,Sem.run_bind,run_underlying g1,Result.andThen_ok,g2];rfl,?_⟩
   cases r with
   |none=>exact g3
   |some jv=>obtain⟨v',a1,a2,_,e,a4,a5⟩:=g3;exact⟨v',a1,a2,e,by simpa using a4,a5⟩
 obtain⟨r',g2,g3⟩:=Wv (w:=w) hfl hfit hx es es' 0 r hl he hf;obtain⟨fields,hu,_⟩:=JP hfl;refine⟨r',?_,?_⟩
 . simp only[Instr.findKey,Sem.run_bind,run_underlying hu,Result.andThen_ok]
   cases es' with
   |nil=>simpa[Instr.findNow,Instr.findAsking] using g2
   | cons e es'=>
    have:Instr.findNow (.struct fields) x' (e::es') 0=none:=by
     simp only[qf]at hx;obtain⟨xs,rfl,_⟩:=hx;simp[Instr.findNow,Instr.sameNow]
    rwa[this]
 cases r with
 |none=>exact g3
 |some jv=>obtain⟨v',a1,a2,_,e,a4,a5⟩:=g3;exact⟨v',a1,a2,e,by simpa using a4,a5⟩
def qcQ(h:WRel G w0 ro0 K U w){t m k v m' k'}(hm:qf K m m')(hk:qf K k k'){ok}(hf:zz (Dof P) U t m k ok=some v):
 ∃v',(Instr.lookup t m' k' ok).run P w=.ok v' w/\qf K v v':=by
 unfold zz at hf;split at hf
 . rename_i i hD;obtain⟨inf,d,z,hi,hu,_,rfl⟩:=qE hD;simp only at hf;split at hf
   . rename_i kt et hd;have:=qb2 hd;subst this;split at hf
     . rename_i hko;split at hf
       . rename_i es hes
         -- the entries,as they lie
         have hent:∃es':Array MapEntry,((m'=.map none/\es' = #[])\/∃B clock,m'=.map (some B)/\(getObj B).run P w=.ok (.map es' clock) w)/\es'.toList.length=es.length /\
          ∀(j:Nat) (k v:AV) (b:Nat),es[j]?=some (k,v,b)->∃e:MapEntry,es'.toList[j]?=some e/\qf K k e.key/\qf K v e.val/\e.born=b:=by
          split at hes
          . cases hes;simp only[qf]at hm;subst hm;exact⟨#[],.inl ⟨rfl,rfl⟩,by simp⟩
          . rename_i b;split at hes
            . rename_i es0 clock hb;cases hes;simp only[qf]at hm;obtain⟨B,hm1,rfl⟩:=hm;obtain⟨B',h1,_,_,⟨es',h4,h5,h6⟩,_⟩:=h.blk b _ hb;rw[hm1]at h1;cases h1;exact⟨es',.inr ⟨B,clock,rfl,by simp[getObj,Sem.run,h4]⟩,by simpa using h5,fun j k v b e=>by simpa using h6 j k v b e⟩
            cases hes
          cases hes
         obtain⟨es',e1,e2,e3⟩:=hent;have hck:=fun b=>Ym (P:=P) (w:=w) hko hk b
         split at hf
         . rename_i idx v0 hfa;cases hf;obtain⟨r',g2,v',rfl,g4,_⟩:=vE (w:=w) hko hk es es'.toList _ e2 e3 hfa;refine⟨if ok then .tuple #[v',.bool true] else v',?_,by split<;>simp[qf,qi,g4]⟩;rcases e1 with⟨rfl,rfl⟩|⟨B,clock,rfl,e1⟩
           . simp only[Instr.lookup,Sem.run_bind,run_underlying hu,Result.andThen_ok];simp only[pure,Sem.run,Result.andThen_ok,hck,g2,Sem.run_bind]
           simp only[Instr.lookup,Sem.run_bind,run_underlying hu,Result.andThen_ok,e1];simp only[pure,Sem.run,Result.andThen_ok,hck,g2,Sem.run_bind]
         . rename_i hfa;obtain⟨zv,hz,rfl⟩:=qBj.1 hf;obtain⟨r',g2,g3⟩:=vE (w:=w) hko hk es es'.toList _ e2 e3 hfa;simp only at g3;subst g3;unfold qbJ at hz;split at hz
           . rename_i j hj;obtain⟨inf2,d2,z2,hi2,hu2,hz2,rfl⟩:=qE hj;cases hz;have hzr:=qf.ofV K z2;refine⟨if ok then .tuple #[z2,.bool false] else z2,?_,by split<;>simp[qf,qi,hzr]⟩;rcases e1 with⟨rfl,rfl⟩|⟨B,clock,rfl,e1⟩
             . simp only[Instr.lookup,Sem.run_bind,run_underlying hu,Result.andThen_ok];simp only[pure,Sem.run,Result.andThen_ok,hck,g2,Sem.run_bind];simp[zeroValue,typeInfo,hi2,hz2]
             simp only[Instr.lookup,Sem.run_bind,run_underlying hu,Result.andThen_ok,e1];simp only[pure,Sem.run,Result.andThen_ok,hck,g2,Sem.run_bind];simp[zeroValue,typeInfo,hi2,hz2]
           cases hz
         cases hf
       cases hf
     cases hf
   cases hf
 cases hf
def K7(h:WRel G w0 ro0 K U w){t m k v m' k' v'}(hm:qf K m m')(hk:qf K k k')(hv:qf K v v'){U'}(hf:zi (Dof P) U t m k v=some U'):
 ∃w',(Instr.mapUpdate t m' k' v').run P w=.ok () w'/\WRel G w0 ro0 K U' w':=by
 unfold zi at hf;split at hf
 . rename_i i hD;obtain⟨inf,d,z,hi,hu,_,rfl⟩:=qE hD;simp only at hf;split at hf
   . rename_i kt et hd;have:=qb2 hd;subst this;split at hf
     . rename_i hko;split at hf
       . rename_i b;split at hf
         . rename_i es clock hb;simp only[qf]at hm;obtain⟨B,hm1,rfl⟩:=hm;obtain⟨B',h1,hB0,hBl,⟨es',h4,h5,h6⟩,_⟩:=h.blk b _ hb;rw[hm1]at h1;cases h1;have hbl:=(qBa.1 hb).1;have hck:=Ym (P:=P) (w:=w) hko hk false;have hset:∀(o:Obj),(setObj B o).run P w=.ok () {w with heap:=w.heap.setIfInBounds B o}:=by
            intro o;simp[setObj,Sem.run,h4]
           have hkeep:∀o:Obj,(∀k,k≠B->({w with heap:=w.heap.setIfInBounds B o}:World).heap[k]?=w.heap[k]?):=by
            intro o k hk;simp[qDF (Ne.symm hk)]
           split at hf
           . rename_i idx v0 hfa;cases hf;obtain⟨r',g2,v1,rfl,g4,e0,g5,g6⟩:=vE (w:=w) hko hk es es'.toList _ (by simpa using h5) (fun j k v b e=>by simpa using h6 j k v b e) hfa;refine⟨{w with heap:=w.heap.setIfInBounds B (.map (es'.modify idx fun e=>{e with key:=k',val:=v'}) clock)},?_,?_⟩
             . simp only[Instr.mapUpdate,Sem.run_bind,run_underlying hu,Result.andThen_ok];simp[getObj,Sem.run,h4,hck,g2,Instr.keyThatStays,show es'[idx]?=some e0 by simpa using g5,g6,hset]
             refine h.setBlk (B:=B) hbl hm1 rfl rfl rfl (by simp) (hkeep _) ?_ (by rw[hb];simp) (fun cs2 el2 fr2 e2=>by simp[hBl]at e2) (fun cs2 el2 fr2 e2=>by simp[hBl]at e2);refine⟨es'.modify idx fun e=>{e with key:=k',val:=v'},by simp[hBl],by simp[h5],?_⟩;intro j k2 v2 b2 e2;rw[qC8]at e2
             cases hj:es[j]? with
             |none=>simp[hj]at e2
             | some kvb=>
              obtain⟨k3,v3,b3⟩:=kvb;obtain⟨e,a1,a2,a3,a4⟩:=h6 j k3 v3 b3 hj;rw[hj]at e2;rw[Array.getElem?_modify,a1];by_cases hji:idx=j
              . simp only[if_pos hji,Option.map_eq_map,qD0,qBu,qBs]at e2;obtain⟨rfl,rfl,rfl⟩:=e2;rw[if_pos hji];exact⟨_,rfl,hk,hv,a4⟩
              simp only[if_neg hji,Option.map_eq_map,qD0,qBu,qBs]at e2;obtain⟨rfl,rfl,rfl⟩:=e2;rw[if_neg hji];exact⟨e,rfl,a2,a3,a4⟩
           . rename_i hfa;cases hf;obtain⟨r',g2,g3⟩:=vE (w:=w) hko hk es es'.toList _ (by simpa using h5) (fun j k v b e=>by simpa using h6 j k v b e) hfa;simp only at g3;subst g3;refine⟨{w with heap:=w.heap.setIfInBounds B (.map (es'.push {key:=k',val:=v',born:=clock}) (clock+1))},?_,?_⟩
             . simp only[Instr.mapUpdate,Sem.run_bind,run_underlying hu,Result.andThen_ok];simp[getObj,Sem.run,h4,hck,g2,hset]
             refine h.setBlk (B:=B) hbl hm1 rfl rfl rfl (by simp) (hkeep _) ?_ (by rw[hb];simp) (fun cs2 el2 fr2 e2=>by simp[hBl]at e2) (fun cs2 el2 fr2 e2=>by simp[hBl]at e2);refine⟨es'.push {key:=k',val:=v',born:=clock},by simp[hBl],by simp[h5],?_⟩;intro j k2 v2 b2 e2;rw[qCc]at e2;rw[Array.getElem?_push];split at e2
             . rename_i hj;rw[if_neg (by omega)];exact h6 j k2 v2 b2 e2
             rename_i hj;have:j-es.length=0:=by
              rcases qCC (j-es.length) with h0|h0
              . exact h0
              rw[qBI (by simp;omega)]at e2;cases e2
             rw[this]at e2;simp at e2;obtain⟨rfl,rfl,rfl⟩:=e2;rw[if_pos (by omega)];exact⟨_,rfl,hk,hv,rfl⟩
           cases hf
         cases hf
       cases hf
     cases hf
   cases hf
 cases hf
end
section
variable {P:Program}{G:Nat->AV}{w0:World}{ro0:Nat->Nat->Option Value}{K:Kn}{U:St}{w w':World}{N:Nat}{env:Env}{a:Act}
def qeq(h:WRel G w0 ro0 K U w){t:Nat}{x:Value}{s:List UInt8}(hu:P.underlying t=some .string)(hx:qf K (.str s) x):Ran P G w0 ro0 K w (Instr.range t x) (.iter U.H.length) (U.push (.siter s 0)):=by
 simp only[qf]at hx;subst hx;refine⟨.pointer (some ⟨w.heap.size,0,none⟩),w.alloc (.stringIter ⟨s.toArray⟩ 0),K.addM U.H.length w.heap.size (j9 _),?_,qFM h _ _,h.push ?_,?_⟩
 . simp[Instr.range,run_underlying hu]
 . simp[yn]
 simp only[qf];exact⟨w.heap.size,by simp[Kn.addM],rfl⟩
def qh2(h:WRel G w0 ro0 K U w){t:Nat}{x:Value}{a:AV}{v:AV}{U':St}(hx:qf K a x)(hf:qaT U a=some (v,U')):Ran P G w0 ro0 K w (Instr.next x true t) v U':=by
 unfold qaT at hf;split at hf
 . rename_i b;split at hf
   . rename_i s pos hb;simp only[qf]at hx;obtain⟨B,hm,rfl⟩:=hx;obtain⟨B',h1,hB0,hBl,h4,_⟩:=h.blk b _ hb;rw[hm]at h1;cases h1;simp only[yn]at h4;have hbl:b<U.H.length:=(qBa.1 hb).1;split at hf
     . rename_i hp;simp only[qBu,qBs]at hf;obtain⟨rfl,rfl⟩:=hf;have hp':pos<(ByteArray.mk s.toArray).size:=(by simpa[ByteArray.size] using hp);refine⟨.tuple #[.bool true,.int .i64 pos,.int .i32 (Utf8.decode ⟨s.toArray⟩ pos).1],{w with heap:=w.heap.setIfInBounds B (.stringIter ⟨s.toArray⟩ (pos+(Utf8.decode ⟨s.toArray⟩ pos).2))},K,?_,qFQ K,?_,?_⟩
       . simp[Instr.next,getObj,setObj,Sem.run,h4,hp',goInt]
       . refine h.setBlk (B:=B) hbl hm rfl rfl rfl (by simp) (fun k hk=>by simp[qDF (Ne.symm hk)]) ?_ (by rw[hb];simp) (fun cs2 el2 fr2 e2=>by simp[hBl]at e2) (fun cs2 el2 fr2 e2=>by simp[hBl]at e2);simp[yn,hBl]
       simp[qf,qi]
     rename_i hp;simp only[qBu,qBs]at hf;obtain⟨rfl,rfl⟩:=hf;have hp':¬pos<(ByteArray.mk s.toArray).size:=(by simpa[ByteArray.size] using hp);refine⟨.tuple #[.bool false],w,K,?_,qFQ K,h,?_⟩
     . simp[Instr.next,getObj,Sem.run,h4,hp']
     simp[qf,qi]
   cases hf
 cases hf
def Did(P:Program)(G:Nat->AV)(w0:World)(ro0:Nat->Nat->Option Value)(K:Kn)(w:World)(s:Sem Next)(v:AV)(U':St):Prop :=
 ∃v' w' K',(s.run P w=.ok (.value v') w'\/(s.run P w=.ok .skip w'/\v'=undef))/\K.le K'/\WRel G w0 ro0 K' U' w'/\qf K' v v'
def Did.of_ran{s:Sem Value}{v U'}(h:Ran P G w0 ro0 K w s v U'):Did P G w0 ro0 K w (do pure (.value (<- s))) v U':=by
 obtain⟨v',w',K',h1,h2,h3,h4⟩:=h;exact⟨v',w',K',.inl (by simp[h1]),h2,h3,h4⟩
def qFU:=@Did.of_ran
def Did.of_same(h:WRel G w0 ro0 K U w){s:Sem Value}{v}(hr:∃v',s.run P w=.ok v' w/\qf K v v'):Did P G w0 ro0 K w (do pure (.value (<- s))) v U:=by
 obtain⟨v',h1,h2⟩:=hr;exact qFU (qFT h h1 h2)
def qFV:=@Did.of_same
def Did.of_unit{s:Sem Unit}{U'}(hr:∃w',s.run P w=.ok () w'/\WRel G w0 ro0 K U' w'):Did P G w0 ro0 K w (do s;pure .skip) (.tup []) U':=by
 obtain⟨w',h1,h2⟩:=hr;exact⟨undef,w',K,.inr ⟨by simp[h1],rfl⟩,qFQ K,h2,by simp only[qf];exact⟨#[],rfl,by simp[qi]⟩⟩
def qcx(hw:WRel G w0 ro0 K U w)(he:ERel K N env a)(ps:Array (Nat×Operand)):
 (ps.map fun(i,x)=>(i,a.eval x)).toList.map (·.1)=(ps.toList.map fun p=>(p.1,ev G env p.2)).map (·.1) /\
   qi K ((ps.toList.map fun p=>(p.1,ev G env p.2)).map (·.2)) ((ps.map fun(i,x)=>(i,a.eval x)).toList.map (·.2)):=by
 constructor
 . simp
 have:=QN hw he (ps.toList.map (·.2));simpa[qbE,Function.comp_def] using this
def Kx(hw:WRel G w0 ro0 K U w)(he:ERel K N env a)(o){v U'}(h:sem (Dof P) G env U o.op=some (v,U')):
 Did P G w0 ro0 K w (execOp a.eval o) v U':=by
 have ex:=Jh hw he;obtain⟨dst,op,type,pos,after,guard⟩:=o;simp only at h;cases op<;>simp only[sem]at h
 case move x=>
  simp only[qBu,qBs]at h;obtain⟨rfl,rfl⟩:=h;exact⟨a.eval x,w,K,.inl rfl,qFQ K,hw,ex x⟩
 case assign x=>
  simp only[qBu,qBs]at h;obtain⟨rfl,rfl⟩:=h;exact⟨a.eval x,w,K,.inl rfl,qFQ K,hw,ex x⟩
 case pick c x y=>
  split at h
  . rename_i b hb;simp only[qBu,qBs]at h;obtain⟨rfl,rfl⟩:=h;have hc:=ex c;rw[hb]at hc;simp only[qf]at hc;refine⟨if b then a.eval x else a.eval y,w,K,.inl ?_,qFQ K,hw,?_⟩
    . simp[execOp,hc,asBool]
    cases b
    . exact ex y
    exact ex x
  cases h
 case alloc e=>
  split at h
  . rename_i i hi;split at h
    . rename_i hz;simp only[qBu,qBs]at h;obtain⟨rfl,rfl⟩:=h;exact qFU (qfh hw hi hz)
    cases h
  cases h
 case box e x=>
  obtain⟨c,hc,he'⟩:=qBj.1 h;simp only[qBs]at he';obtain⟨rfl,rfl⟩:=he';exact qFU (qlM hw (ex x) hc)
 case build t ps=>
  obtain⟨u,hu,he'⟩:=qBj.1 h;simp only[qBs]at he';obtain⟨rfl,rfl⟩:=he';obtain⟨p1,p2⟩:=qcx hw he ps;exact qFU (qfa hw p1 p2 hu)
 case buildSlice t n ps=>
  obtain⟨u,hu,he'⟩:=qBj.1 h;simp only[qBs]at he';obtain⟨rfl,rfl⟩:=he';obtain⟨p1,p2⟩:=qcx hw he ps;exact qFU (YE hw p1 p2 hu)
 case load t x=>
  obtain⟨u,hu,he'⟩:=qBj.1 h;simp only[qBs]at he';obtain⟨rfl,rfl⟩:=he';exact qFU (qia hw (ex x) hu)
 case store t x y=>
  obtain⟨u,hu,he'⟩:=qBj.1 h;simp only[qBs]at he';obtain⟨rfl,rfl⟩:=he';exact Did.of_unit (Zm hw (ex x) (ex y) hu)
 case nilCheck x=>
  have hx:=ex x;split at h
  . rename_i b o hb;simp only[qBu,qBs]at h;obtain⟨rfl,rfl⟩:=h;rw[hb]at hx;have hx':=hx;simp only[qf]at hx;obtain⟨B,_,e⟩:=hx;exact⟨a.eval x,w,K,.inl (by simp[execOp,e]),qFQ K,hw,hx'⟩
  . rename_i c hb;simp only[qBu,qBs]at h;obtain⟨rfl,rfl⟩:=h;rw[hb]at hx;have hx':=hx;simp only[qf]at hx;obtain⟨B,off,e,_⟩:=hx;exact⟨a.eval x,w,K,.inl (by simp[execOp,e]),qFQ K,hw,hx'⟩
  cases h
 case binOp op t x y u=>
  obtain⟨u,hu,he'⟩:=qBj.1 h;simp only[qBs]at he';obtain⟨rfl,rfl⟩:=he';exact qFV hw (qlS (ex x) (ex y) hu x y)
 case unOp op t x=>
  obtain⟨u,hu,he'⟩:=qBj.1 h;simp only[qBs]at he';obtain⟨rfl,rfl⟩:=he';exact qFV hw (qmM (ex x) hu)
 case convert s d x=>
  obtain⟨u,hu,he'⟩:=qBj.1 h;simp only[qBs]at he';obtain⟨rfl,rfl⟩:=he';exact qFV hw (qiu hw (ex x) hu)
 case makeFunc fn x y=>
  cases fn<;>simp only at h<;>try(cases h;done)
  rename_i f;simp only[qBu,qBs]at h;obtain⟨rfl,rfl⟩:=h;refine⟨.func (.func f) (x.map a.eval) (y.map a.eval),w,K,.inl (by simp[execOp,Instr.makeFunc]),qFQ K,hw,?_⟩;simp only[qf];exact⟨_,_,rfl,by simpa using QN hw he x.toList,by simpa using QN hw he y.toList⟩
 case makeMap t r=>
  cases r with
  | none=>
   simp only[qBu,qBs]at h;obtain⟨rfl,rfl⟩:=h;exact qFU (qaX hw t)
  |some r=>cases h
 case makeSlice t l c=>exact qFU (Qk hw (ex l) (ex c) h)
 case slice t x lo hi mx=>
  obtain⟨hlo,hlo0⟩:=qey hw he lo;obtain⟨hhi,hhi0⟩:=qey hw he hi;obtain⟨hmx,hmx0⟩:=qey hw he mx;have hx:=ex x;split at h
  . rename_i i hD;obtain⟨inf,d,z,hi,hu,_,rfl⟩:=qE hD;simp only at h;split at h
    . rename_i s hd hxs;have:=Qa hd;subst this;obtain⟨u,hu',he'⟩:=qBj.1 h;simp only[qBs]at he';obtain⟨rfl,rfl⟩:=he';rw[hxs]at hx;simp only[qf]at hx;have:=qjz (P:=P) (K:=K) (w:=w) hu hlo hlo0 hhi hhi0 hmx0 hu';rw[<- hx]at this;exact qFV hw this
    . rename_i e hd;have:=Q6 hd;subst this;split at h
      . rename_i j sz rows tok hj hxs;obtain⟨inf2,d2,z2,hi2,hu2,_,rfl⟩:=qE hj;split at h
        . rename_i hsz;obtain⟨u,hu',he'⟩:=qBj.1 h;simp only[qBs]at he';obtain⟨rfl,rfl⟩:=he';rw[hxs]at hx;exact qFV hw (qm1 hu hi2 hsz hx hlo hlo0 hhi hhi0 hmx hmx0 hu')
        cases h
      . rename_i j b off len sz hj hxs;obtain⟨inf2,d2,z2,hi2,hu2,_,rfl⟩:=qE hj;split at h
        . rename_i hsz;simp only at hsz;subst hsz;obtain⟨u,hu',he'⟩:=qBj.1 h;simp only[qBs]at he';obtain⟨rfl,rfl⟩:=he';rw[hxs]at hx;exact qFV hw (qm2 hu hi2 hx hlo hlo0 hhi hhi0 hmx0 hu')
        cases h
      cases h
    cases h
  cases h
 case fieldAddr s x f=>
  obtain⟨u,hu,he'⟩:=qBj.1 h;simp only[qBs]at he';obtain⟨rfl,rfl⟩:=he';exact qFV hw (Ww hw (ex x) hu)
 case field s x f=>
  obtain⟨u,hu,he'⟩:=qBj.1 h;simp only[qBs]at he';obtain⟨rfl,rfl⟩:=he';exact qFV hw (qeW (ex x) hu)
 case indexAddr t x i=>
  obtain⟨u,hu,he'⟩:=qBj.1 h;simp only[qBs]at he';obtain⟨rfl,rfl⟩:=he';exact qFV hw (Wk hw (ex x) (ex i) hu)
 case index t x i=>
  obtain⟨u,hu,he'⟩:=qBj.1 h;simp only[qBs]at he';obtain⟨rfl,rfl⟩:=he';exact qFV hw (qeM (ex x) (ex i) hu)
 case lookup t x i ok=>
  obtain⟨u,hu,he'⟩:=qBj.1 h;simp only[qBs]at he';obtain⟨rfl,rfl⟩:=he';exact qFV hw (qcQ hw (ex x) (ex i) hu)
 case mapUpdate t m k x=>
  obtain⟨u,hu,he'⟩:=qBj.1 h;simp only[qBs]at he';obtain⟨rfl,rfl⟩:=he';exact Did.of_unit (K7 hw (ex m) (ex k) (ex x) hu)
 case range t x=>
  have hx:=ex x;split at h
  . rename_i i s hD hxs;obtain⟨inf,d,z,hi,hu,_,rfl⟩:=qE hD;simp only at h;split at h
    . rename_i hd;have:=Qa hd;subst this;simp only[qBu,qBs]at h;obtain⟨rfl,rfl⟩:=h;rw[hxs]at hx;exact qFU (qeq hw hu hx)
    cases h
  cases h
 case next it b=>
  cases b with
  |false=>cases h
  | true=>
   simp only at h;exact qFU (qh2 hw (ex it) h)
 case extract x i=>
  obtain⟨u,hu,he'⟩:=qBj.1 h;simp only[qBs]at he';obtain⟨rfl,rfl⟩:=he';exact qFV hw (qba (ex x) hu)
 case call c=>
  obtain⟨callee,args,argTypes⟩:=c;cases callee<;>simp only at h<;>try(cases h;done)
  rename_i b;have ha:=QN hw he args.toList;unfold zI at h;split at h
  . rename_i t x hts hvs;obtain⟨u,hu,he'⟩:=qBj.1 h;simp only[qBs]at he';obtain⟨rfl,rfl⟩:=he';rw[hvs]at ha;simp only[qi]at ha;obtain⟨v1,vr,e1,h1,rfl⟩:=ha;have eargs:args.map a.eval = #[v1]:=(by apply Array.ext';simpa using e1);have ets:argTypes = #[t]:=(by apply Array.ext';simpa using hts);have:=qkz hw h1 type hu;obtain⟨v',r1,r2⟩:=this;exact⟨v',w,K,.inl (by simp[execOp,resolve,invoke,builtin,eargs,ets,r1]),qFQ K,hw,r2⟩
  . rename_i t u x y hts hvs;split at h
    . rename_i hut;subst hut;rw[hvs]at ha;simp only[qi]at ha;obtain⟨v1,vr,e1,h1,v2,vr2,e2,h2,rfl⟩:=ha;have eargs:args.map a.eval = #[v1,v2]:=(by apply Array.ext';simpa[e2] using e1);have ets:argTypes = #[u,u]:=(by apply Array.ext';simpa using hts);obtain⟨v',w',K',r1,r2,r3,r4⟩:=qdE hw h1 h2 type h;exact⟨v',w',K',.inl (by simp[execOp,resolve,invoke,builtin,eargs,ets,r1]),r2,r3,r4⟩
    cases h
  . rename_i x y hvs;obtain⟨u,hu,he'⟩:=qBj.1 h;simp only[qBs]at he';obtain⟨rfl,rfl⟩:=he';rw[hvs]at ha;simp only[qi]at ha;obtain⟨v1,vr,e1,h1,v2,vr2,e2,h2,rfl⟩:=ha;have eargs:args.map a.eval = #[v1,v2]:=(by apply Array.ext';simpa[e2] using e1);obtain⟨v',r1,r2⟩:=qks (P:=P) (w:=w) h1 h2 argTypes type hu;exact⟨v',w,K,.inl (by simp[execOp,resolve,invoke,builtin,eargs,r1]),qFQ K,hw,r2⟩
  . rename_i x y z hvs;obtain⟨u,hu,he'⟩:=qBj.1 h;simp only[qBs]at he';obtain⟨rfl,rfl⟩:=he';rw[hvs]at ha;simp only[qi]at ha;obtain⟨v1,vr,e1,h1,v2,vr2,e2,h2,v3,vr3,e3,h3,rfl⟩:=ha;have eargs:args.map a.eval = #[v1,v2,v3]:=(by apply Array.ext';simpa[e2,e3] using e1);obtain⟨v',r1,r2⟩:=qh6 (P:=P) (w:=w) h1 h2 h3 argTypes type hu;exact⟨v',w,K,.inl (by simp[execOp,resolve,invoke,builtin,eargs,r1]),qFQ K,hw,r2⟩
  . rename_i x y hvs;obtain⟨u,hu,he'⟩:=qBj.1 h;simp only[qBs]at he';obtain⟨rfl,rfl⟩:=he';rw[hvs]at ha;simp only[qi]at ha;obtain⟨v1,vr,e1,h1,v2,vr2,e2,h2,rfl⟩:=ha;have eargs:args.map a.eval = #[v1,v2]:=(by apply Array.ext';simpa[e2] using e1);obtain⟨v',r1,r2⟩:=qkv (P:=P) (w:=w) h1 h2 argTypes type hu;exact⟨v',w,K,.inl (by simp[execOp,resolve,invoke,builtin,eargs,r1]),qFQ K,hw,r2⟩
  cases h
 all_goals(first|(cases h;done)|(split at h<;>cases h))
end
mutual
def qL:AV->Bool
 |.ptr ..|.ms ..|.map _|.iter _|.any=>false
 |.rptr c=>qx c
 |.sl _ rows tok=>(match tok with|.chain .. =>false|_=>true)&&q9 rows
 |.fn _ a b=>qx a&&qx b
 |.agg c=>qx c
 |.tup c=>qx c
 |_=>true
def qx:List AV->Bool
 |[]=>true
 |a::r=>qL a&&qx r
def q9:List (List AV)->Bool
 |[]=>true
 |a::r=>qx a&&q9 r
end
def qcJ:∀l,qx l=l.all qL
 |[]=>rfl
 |a::r=>by simp[qx,qcJ r]
def VT:∀l,q9 l=l.all (·.all qL)
 |[]=>rfl
 |a::r=>by simp[q9,VT r,qcJ]
mutual
def qf.toK0{K}:∀(a){v:Value},qL a=true->qf K a v->qf (K0 K.ro) a v
 |.any,_,h,_=>by simp[qL]at h
 |.bool b,_,_,x=>by simpa[qf] using x
 |.int k n,_,_,x=>by simpa[qf] using x
 |.str s,_,_,x=>by simpa[qf] using x
 |.nilp,_,_,x=>by simpa[qf] using x
 |.ptr b off,_,h,x=>by simp[qL]at h
 | .rptr c,_,h,x=>by
  simp only[qf,qL]at h x⊢;obtain⟨B,off,h1,h2⟩:=x;exact⟨B,off,h1,qn.toK0 c B off h h2⟩
 | .sl sz rows tok,_,h,x=>by
  simp only[qf,qL,qBf]at h x⊢;rcases x with x|⟨B,off,cap,h1,h2,h3,h4⟩
  . exact .inl x
  refine .inr ⟨B,off,cap,h1,h2,qS.toK0 rows B off sz h.2 h3,?_⟩;cases tok<;>simp_all[wz]
 |.ms b off len sz,_,h,x=>by simp[qL]at h
 |.nilm,_,_,x=>by simpa[qf] using x
 |.map b,_,h,x=>by simp[qL]at h
 |.iter b,_,h,x=>by simp[qL]at h
 | .fn f a b,_,h,x=>by
  simp only[qf,qL,qBf]at h x⊢;obtain⟨va,vb,h1,h2,h3⟩:=x;exact⟨va,vb,h1,qi.toK0 a h.1 h2,qi.toK0 b h.2 h3⟩
 |.nilf,_,_,x=>by simpa[qf] using x
 | .agg c,_,h,x=>by
  simp only[qf,qL]at h x⊢;obtain⟨vs,h1,h2⟩:=x;exact⟨vs,h1,qi.toK0 c h h2⟩
 | .tup c,_,h,x=>by
  simp only[qf,qL]at h x⊢;obtain⟨vs,h1,h2⟩:=x;exact⟨vs,h1,qi.toK0 c h h2⟩
def qi.toK0{K}:∀(l){vs:List Value},qx l=true->qi K l vs->qi (K0 K.ro) l vs
 |[],_,_,x=>by simpa[qi] using x
 | a::r,_,h,x=>by
  simp only[qi,qx,qBf]at h x⊢;obtain⟨v,vr,h1,h2,h3⟩:=x;exact⟨v,vr,h1,qf.toK0 a h.1 h2,qi.toK0 r h.2 h3⟩
def qn.toK0{K}:∀(l) (B off),qx l=true->qn K B off l->qn (K0 K.ro) B off l
 |[],_,_,_,_=>by simp[qn]
 | a::r,B,off,h,x=>by
  simp only[qn,qx,qBf]at h x⊢;obtain⟨⟨v,h1,h2⟩,h3⟩:=x;exact⟨⟨v,h1,qf.toK0 a h.1 h2⟩,qn.toK0 r _ _ h.2 h3⟩
def qS.toK0{K}:∀(l) (B off sz),q9 l=true->qS K B off sz l->qS (K0 K.ro) B off sz l
 |[],_,_,_,_,_=>by simp[qS]
 | a::r,B,off,sz,h,x=>by
  simp only[qS,q9,qBf]at h x⊢;obtain⟨⟨h1,h0,h2⟩,h3⟩:=x;exact⟨⟨h1,h0,qn.toK0 a _ _ h.1 h2⟩,qS.toK0 r _ _ _ h.2 h3⟩
end
def pl1:AV->AV
 |.sl sz rows (.chain _ _)=>.sl sz rows .none
 |v=>v
def pl2:AV->AV
 |.agg c=>.agg (c.map pl1)
 |v=>pl1 v
def plain:AV->AV
 |.tup c=>.tup (c.map pl2)
 |v=>pl2 v
def vS(sz:Nat):Nat->List AV->List (List AV)
 |0,_=>[]
 |n+1,c=>c.take sz::vS sz n (c.drop sz)
def k0(H:List Blk):AV->AV
 | .ms b off len sz=>match H[b]? with
  |some (.cells c)=>if off+len*sz<=c.length then .sl sz (vS sz len (c.drop off)) .none else .any
  |_=>.any
 |v=>pl1 v
def vU(H:List Blk):AV->AV
 |.agg c=>.agg (c.map (k0 H))
 |v=>k0 H v
def fin(H:List Blk):AV->AV
 |.tup c=>.tup (c.map (vU H))
 |v=>vU H v
def qew{K v}:∀{a:AV},qf K a v->qf K (pl1 a) v:=by
 intro a h;unfold pl1;split
 . rename_i sz rows t k;simp only[qf]at h⊢;rcases h with⟨_,_,h⟩|⟨B,off,cap,h1,h2,h3,_⟩
   . exact h.elim
   exact .inr ⟨B,off,cap,h1,h2,h3,trivial⟩
 exact h
def qi.mapRel{K K' f}(hf:∀a v,qf K a v->qf K' (f a) v):∀(l){vs:List Value},qi K l vs->qi K' (l.map f) vs
 |[],_,h=>by simpa[qi] using h
 | a::r,_,h=>by
  simp only[qi,qBn]at h⊢;obtain⟨v,vr,h1,h2,h3⟩:=h;exact⟨v,vr,h1,hf a v h2,qi.mapRel hf r h3⟩
def qFs:=@qi.mapRel
def qj8{K v}:∀{a:AV},qf K a v->qf K (pl2 a) v:=by
 intro a h;unfold pl2;split
 . simp only[qf]at h⊢;obtain⟨vs,h1,h2⟩:=h;exact⟨vs,h1,qFs (fun _ _=>qew) _ h2⟩
 exact qew h
def qj5{K v}:∀{a:AV},qf K a v->qf K (plain a) v:=by
 intro a h;unfold plain;split
 . simp only[qf]at h⊢;obtain⟨vs,h1,h2⟩:=h;exact⟨vs,h1,qFs (fun _ _=>qj8) _ h2⟩
 exact qj8 h
def JW(sz):∀(n) (c),n*sz<=c.length->(vS sz n c).length=n/\∀(i) (r),(vS sz n c)[i]?=some r->r=(c.drop (i*sz)).take sz/\i<n
 |0,c,_=>⟨rfl,by simp[vS]⟩
 | n+1,c,h=>by
  rw[qCl]at h;obtain⟨h1,h2⟩:=JW sz n (c.drop sz) (by simp;omega);refine⟨by simp[vS,h1],fun i r e=>?_⟩
  cases i with
  |zero=>simp[vS]at e;subst e;simp
  | succ i=>
   simp only[vS,qDG]at e;obtain⟨h3,h4⟩:=h2 i r e;refine⟨?_,by omega⟩;rw[h3,qEw,qCl,qEz,qDi sz]
section
variable {P:Program}{G:Nat->AV}{w0:World}{ro0:Nat->Nat->Option Value}{K:Kn}{U:St}{w w':World}
open Classical in
noncomputable def Qf(w0 w:World)(ro:Nat->Nat->Option Value):Nat->Nat->Option Value :=
 fun b o=>match ro b o with
  |some v=>some v
  |none=>if w0.heap.size<=b then w.cell? ⟨b,o,none⟩ else none
def YP(w0 w ro b o v)(h:ro b o=some v):Qf w0 w ro b o=some v:=by simp[Qf,h]
def Kn.le_end(K:Kn)(w0 w):K.le {K with ro:=Qf w0 w K.ro} :=
 ⟨fun b o v e=>YP w0 w K.ro b o v e,fun _ _ e=>e,qBl _,fun t C _ e=>⟨C,e,.inl rfl⟩,fun _ _ _=>rfl,fun _ _ e=>e,fun _ _ e=>e⟩
def WRel.end_ro(h:WRel G w0 ro0 K U w):(∀b o v,Qf w0 w K.ro b o=some v->w.cell? ⟨b,o,none⟩=some v)/\(∀b o v,Qf w0 w K.ro b o=some v->b<w0.heap.size->ro0 b o=some v):=by
 constructor
 . intro b o v e;simp only[Qf]at e;split at e
   . rename_i u hu;cases e;exact h.ro _ _ _ hu
   split at e
   . exact e
   cases e
 intro b o v e hb;simp only[Qf]at e;split at e
 . rename_i u hu;cases e;exact h.new _ _ _ hu hb
 rw[if_neg (by omega)]at e;cases e
def qgN(h:WRel G w0 ro0 K U w){a v}(ha:qf K a v):qf {K with ro:=Qf w0 w K.ro} (k0 U.H a) v:=by
 have hle:=Kn.le_end K w0 w;unfold k0;split
 . rename_i b off len sz;split
   . rename_i c hb;split
     . rename_i hl;simp only[qf]at ha⊢;obtain⟨B,cap,hm,rfl,h1,h2⟩:=ha;obtain⟨B',g1,g2,g3,⟨cs,el,g4,g5,g6,g7⟩,g8⟩:=h.blk b _ hb;rw[hm]at g1;cases g1;obtain⟨k1,k2⟩:=JW sz len (c.drop off) (by simp;omega);refine .inr ⟨B,off,cap,by rw[k1],by rw[k1];exact h1,qF3 B sz _ off fun i r e=>?_,trivial⟩;obtain⟨e1,e2⟩:=k2 i r e;have hmul:(i+1)*sz<=len*sz:=qCh _ (by omega);rw[qCl,qEz]at hmul;refine⟨by rw[e1];simp;omega,?_,qF2 B r _ fun j x ex=>?_⟩
       . rw[qBk]at g5⊢;intro x hx;rw[e1]at hx;exact g5 x (qCJ (qCJ (qBW hx)))
       rw[e1,qCj]at ex;split at ex
       . rw[qB8,qB8]at ex;obtain⟨u,u1,u2⟩:=g7 _ _ ex;refine⟨u,?_,u2.mono hle⟩;simp only[Qf,g8];rw[if_pos g2];simp only[World.cell?,g4];simpa[qDb] using u1
       cases ex
     simp[qf]
   simp[qf]
 exact(qew ha).mono hle
def qgM(h:WRel G w0 ro0 K U w){a v}(ha:qf K a v):qf {K with ro:=Qf w0 w K.ro} (vU U.H a) v:=by
 unfold vU;split
 . simp only[qf]at ha⊢;obtain⟨vs,h1,h2⟩:=ha;exact⟨vs,h1,qFs (fun _ _=>qgN h) _ h2⟩
 exact qgN h ha
def qsS(h:WRel G w0 ro0 K U w){a v}(ha:qf K a v):qf {K with ro:=Qf w0 w K.ro} (fin U.H a) v:=by
 unfold fin;split
 . simp only[qf]at ha⊢;obtain⟨vs,h1,h2⟩:=ha;exact⟨vs,h1,qFs (fun _ _=>qgM h) _ h2⟩
 exact qgM h ha
end
def bodied (P:Program) (g:FuncId):Bool:=P.funcs[g]?.any (fun fn=>fn.body.isSome && fn.name != "runtime.NumGoroutine")
def Pure(P:Program)(G:Nat->AV)(f:FuncId)(args:List AV)(r:AV):Prop :=
 bodied P f=true/\∀(w0) (ro) (vs),(∀g,qf (K0 ro) (G g) (.pointer (some ⟨g,0,none⟩)))->(∀b o v,ro b o=some v->w0.cell? ⟨b,o,none⟩=some v)->qi (K0 ro) args vs.toList ->
  Calls P f vs w0 fun e w'=>∃v ro',e=.returned v/\Below w0.heap.size w0 w'/\(∀b o v,ro b o=some v->ro' b o=some v)/\(∀b o v,ro' b o=some v->w'.cell? ⟨b,o,none⟩=some v) /\
   (∀b o v,ro' b o=some v->b<w0.heap.size->ro b o=some v)/\qf (K0 ro') r v
def qw2(D:Nat):Deferred:={target:=.collected D,args:=#[]}
def Dfr(K:Kn)(ds:List Deferred)(K':Kn)(ds':List Deferred):Prop :=
 ∃Ds:List Nat,Ds.Nodup/\ds'=Ds.map qw2++ds/\∀D∈Ds,K.fx D=none/\K'.fx D=some (.deferred (some []))
def Dfr.same{K K'}{ds ds':List Deferred}(h:ds'=ds):Dfr K ds K' ds':=⟨[],List.nodup_nil,by simp[h],by simp⟩
def Dfr.trans{K K1 K2}{ds ds1 ds2:List Deferred}(h1:K.le K1)(h2:K1.le K2)(a:Dfr K ds K1 ds1)(b:Dfr K1 ds1 K2 ds2):Dfr K ds K2 ds2:=by
 obtain⟨D1,n1,e1,f1⟩:=a;obtain⟨D2,n2,e2,f2⟩:=b;refine⟨D2++D1,?_,by rw[e2,e1];simp,fun D hD=>?_⟩
 . refine qCa.2 ⟨n2,n1,fun x hx y hy e=>?_⟩;subst e;have:=(f2 x hx).1;rw[(f1 x hy).2]at this;cases this
 rcases qBp.1 hD with hD|hD
 . obtain⟨g1,g2⟩:=f2 D hD;refine⟨?_,g2⟩
   cases e:K.fx D with
   |none=>rfl
   |some o=>rw[h1.fx D o e]at g1;cases g1
 obtain⟨g1,g2⟩:=f1 D hD;exact⟨g1,h2.fx _ _ g2⟩
structure Glo where
 g:Nat->AV
 X:List PanicEntry->St->Prop
instance:Coe Glo (Nat->AV):=⟨Glo.g⟩
def Glo.NoX(G:Glo):Prop:=∀c U,¬G.X c U
abbrev zh(g:Nat->AV):Glo:=⟨g,fun _ _=>False⟩
instance:Coe (Nat->AV) Glo:=⟨zh⟩
def qcq(g):(zh g).NoX:=fun _ _ h=>h
@[simp]def qyi(g):(zh g).g=g:=rfl
def Out(G:Glo)(w0:World)(ro0:Nat->Nat->Option Value)(K:Kn)(ds:List Deferred)(e:Exit)(a:Act)(w:World):Prop :=
 ∃c K' U,e=.panic c/\K.le K'/\WRel G w0 ro0 K' U w/\Dfr K ds K' a.defers/\G.X c U
def J4(G:Glo)(w0:World)(ro0:Nat->Nat->Option Value)(K:Kn)(N:Nat)(ds:List Deferred)(Q:Exit->Env->St->Prop):Exit->Act->World->Prop :=
 fun e a w=>(∃K' env U,K.le K'/\WRel G w0 ro0 K' U w/\ERel K' N env a/\Dfr K ds K' a.defers/\Q e env U)\/Out G w0 ro0 K ds e a w
def AWp(P:Program)(G:Glo)(N:Nat)(c:Code)(env:Env)(U:St)(Q:Exit->Env->St->Prop):Prop :=
 ∀(w0) (ro0) (K) (a) (w),WRel G w0 ro0 K U w->ERel K N env a->c.wp P (J4 G w0 ro0 K N a.defers Q) a w
def qj(P:Program)(G:Glo)(f:FuncId)(args:List AV)(U:St)(Q:AV->St->Prop):Prop :=
 bodied P f=true/\∀(w0) (ro0) (K) (w) (vs),WRel G w0 ro0 K U w->qi K args vs.toList ->
  Calls P f vs w fun e w'=>(∃v' v U' K',e=.returned v'/\K.le K'/\WRel G w0 ro0 K' U' w'/\qf K' v v'/\Q v U')\/∃c U' K',e=.panicked c/\K.le K'/\WRel G w0 ro0 K' U' w'/\G.X c U'
section
variable {P:Program}{G:Glo}{N:Nat}{env:Env}{U:St}{Q:Exit->Env->St->Prop}
def J4.mono{w0 ro0 K}{ds:List Deferred}{Q' e a w}(h:J4 G w0 ro0 K N ds Q e a w)(hq:∀e env U,Q e env U->Q' e env U):J4 G w0 ro0 K N ds Q' e a w:=by
 rcases h with⟨K',env',U',h1,h2,h3,hd,h4⟩|h
 . exact .inl ⟨K',env',U',h1,h2,h3,hd,hq _ _ _ h4⟩
 exact .inr h
def AWp.mono{c Q'}(h:AWp P G N c env U Q)(hq:∀e env U,Q e env U->Q' e env U):AWp P G N c env U Q' :=
 fun w0 ro0 K a w hw he=>wp_mono (h w0 ro0 K a w hw he) fun e a w x=>x.mono hq
def AWp.skip(h:Q .normal env U):AWp P G N .skip env U Q:=fun w0 ro0 K a w hw he=>wp_skip (.inl ⟨K,env,U,qFQ K,hw,he,.same rfl,h⟩)
def AWp.ret(h:Q .ret env U):AWp P G N .ret env U Q:=fun w0 ro0 K a w hw he=>wp_ret (.inl ⟨K,env,U,qFQ K,hw,he,.same rfl,h⟩)
def AWp.exit{id}(h:Q (.exit id) env U):AWp P G N (.exit id) env U Q:=fun w0 ro0 K a w hw he=>wp_exit (.inl ⟨K,env,U,qFQ K,hw,he,.same rfl,h⟩)
def vl(next:Env->St->Prop)(Q:Exit->Env->St->Prop):Exit->Env->St->Prop
 |.normal,env,U=>next env U
 |e,env,U=>Q e env U
def J4.after{w0 ro0 K K'}(hle:K.le K'){ds ds':List Deferred}(hd:Dfr K ds K' ds'){e a w}(h:J4 G w0 ro0 K' N ds' Q e a w):J4 G w0 ro0 K N ds Q e a w:=by
 rcases h with⟨K1,env',U',h1,h2,h3,hd',h4⟩|⟨c,K1,U',e,h1,h2,hd',h4⟩
 . exact .inl ⟨K1,env',U',qFR hle h1,h2,h3,hd.trans hle h1 hd',h4⟩
 exact .inr ⟨c,K1,U',e,qFR hle h1,h2,hd.trans hle h1 hd',h4⟩
def AWp.seq{x y}(h:AWp P G N x env U (vl (fun env U=>AWp P G N y env U Q) Q)):AWp P G N (.seq x y) env U Q:=by
 intro w0 ro0 K a w hw he;refine wp_seq (wp_mono (h w0 ro0 K a w hw he) ?_);intro e a' w' hp;rcases hp with⟨K',env',U',h1,h2,h3,hd,h4⟩|⟨c,K',U',rfl,hp⟩
 case inr=>exact .inr ⟨c,K',U',rfl,hp⟩
 cases e with
 |normal=>exact wp_mono (h4 w0 ro0 K' a' w' h2 h3) fun e a w x=>x.after h1 hd
 |exit id=>exact .inl ⟨K',env',U',h1,h2,h3,hd,h4⟩
 |goto l=>exact .inl ⟨K',env',U',h1,h2,h3,hd,h4⟩
 |ret=>exact .inl ⟨K',env',U',h1,h2,h3,hd,h4⟩
 |panic c=>exact .inl ⟨K',env',U',h1,h2,h3,hd,h4⟩
 |outgrown=>exact .inl ⟨K',env',U',h1,h2,h3,hd,h4⟩
def AWp.cond{c x y b}(hc:ev G env c=.bool b)(ht:b=true->AWp P G N x env U Q)(hf:b=false->AWp P G N y env U Q):AWp P G N (.cond c x y) env U Q:=by
 intro w0 ro0 K a w hw he;have:=Jh hw he c;rw[hc]at this;simp only[qf]at this;exact wp_cond_split this (fun e=>ht e w0 ro0 K a w hw he) (fun e=>hf e w0 ro0 K a w hw he)
def vm(id:Nat)(Q:Exit->Env->St->Prop):Exit->Env->St->Prop
 |.exit id',env,U=>if id'=id then Q .normal env U else Q (.exit id') env U
 |e,env,U=>Q e env U
def AWp.block{id c}(h:AWp P G N c env U (vm id Q)):AWp P G N (.block id c) env U Q:=by
 intro w0 ro0 K a w hw he;refine wp_block (wp_mono (h w0 ro0 K a w hw he) ?_);intro e a' w' hp;rcases hp with⟨K',env',U',h1,h2,h3,hd,h4⟩|⟨c,K',U',rfl,hp⟩
 case inr=>exact .inr ⟨c,K',U',rfl,hp⟩
 cases e with
 | exit id'=>
  simp only[vm]at h4;simp only[Exit.inBlock];split
  . rename_i e;rw[if_pos e]at h4;exact .inl ⟨K',env',U',h1,h2,h3,hd,h4⟩
  rename_i e;rw[if_neg e]at h4;exact .inl ⟨K',env',U',h1,h2,h3,hd,h4⟩
 |normal=>exact .inl ⟨K',env',U',h1,h2,h3,hd,h4⟩
 |goto l=>exact .inl ⟨K',env',U',h1,h2,h3,hd,h4⟩
 |ret=>exact .inl ⟨K',env',U',h1,h2,h3,hd,h4⟩
 |panic c=>exact .inl ⟨K',env',U',h1,h2,h3,hd,h4⟩
 |outgrown=>exact .inl ⟨K',env',U',h1,h2,h3,hd,h4⟩
def AWp.loop{c}(I:Nat->Env->St->Prop)(n₀)(h₀:I n₀ env U)
 (round:∀n env U,I n env U->AWp P G N c env U (vl (fun env' U'=>∃n',n'<n/\I n' env' U') Q)):AWp P G N (.loop c) env U Q:=by
 intro w0 ro0 K a w hw he;refine wp_loop_ghost (fun n X w=>∃K' env' U',K.le K'/\WRel G w0 ro0 K' U' w/\ERel K' N env' X/\Dfr K a.defers K' X.defers/\I n env' U') n₀ ⟨K,env,U,qFQ K,hw,he,.same rfl,h₀⟩ ?_;intro n a' w' hI;obtain⟨K',env',U',h1,h2,h3,hd,h4⟩:=hI;refine wp_mono (round n env' U' h4 w0 ro0 K' a' w' h2 h3) ?_;intro e a2 w2 hp;rcases hp with⟨K2,env2,U2,g1,g2,g3,gd,g4⟩|⟨c,K2,U2,rfl,g1,g2,gd,g4⟩
 case inr=>exact .inr ⟨c,K2,U2,rfl,qFR h1 g1,g2,hd.trans h1 g1 gd,g4⟩
 have gd:=hd.trans h1 g1 gd
 cases e with
 | normal=>
  obtain⟨n',hn,hi⟩:=g4;exact⟨n',hn,K2,env2,U2,qFR h1 g1,g2,g3,gd,hi⟩
 |exit id=>exact .inl ⟨K2,env2,U2,qFR h1 g1,g2,g3,gd,g4⟩
 |goto l=>exact .inl ⟨K2,env2,U2,qFR h1 g1,g2,g3,gd,g4⟩
 |ret=>exact .inl ⟨K2,env2,U2,qFR h1 g1,g2,g3,gd,g4⟩
 |panic c=>exact .inl ⟨K2,env2,U2,qFR h1 g1,g2,g3,gd,g4⟩
 |outgrown=>exact .inl ⟨K2,env2,U2,qFR h1 g1,g2,g3,gd,g4⟩
end
def qj.glo{P g}{X:List PanicEntry->St->Prop}{f args U Q}(h:qj P (zh g) f args U Q):qj P ⟨g,X⟩ f args U Q :=
 ⟨h.1,fun w0 ro0 K w vs hw hvs=>(h.2 w0 ro0 K w vs hw hvs).mono fun e w' h=>h.imp id fun⟨_,_,_,_,_,_,h⟩=>h.elim⟩
def frz(H:List Blk):Nat->AV->AV
 |0,v=>if qL v then v else .any
 | n+1,v=>if qL v then v else match v with
  | .ptr b off=>match H[b]? with
   |some (.cells c)=>.rptr ((c.drop off).map (frz H n))
   |_=>.any
  | .ms b off len sz=>match H[b]? with
   |some (.cells c)=>if off+len*sz<=c.length/\((vS sz len (c.drop off)).map (·.map (frz H n))).all (·.all AV.atom)=true then .sl sz ((vS sz len (c.drop off)).map (·.map (frz H n))) .none else .any
   |_=>.any
  |.rptr c=>.rptr (c.map (frz H n))
  |.sl sz rows _=>if(rows.map (·.map (frz H n))).all (·.all AV.atom)=true then .sl sz (rows.map (·.map (frz H n))) .none else .any
  |.fn f a b=>.fn f (a.map (frz H n)) (b.map (frz H n))
  |.agg c=>.agg (c.map (frz H n))
  |.tup c=>.tup (c.map (frz H n))
  |_=>.any
section
variable {P:Program}{G:Nat->AV}{w0:World}{ro0:Nat->Nat->Option Value}{K:Kn}{U:St}{w w':World}
def qn.mapRel{K K'}(hro:∀b o v,K.ro b o=some v->K'.ro b o=some v){f}(hf:∀a v,qf K a v->qf K' (f a) v):∀(c){B off:Nat},qn K B off c->qn K' B off (c.map f)
 |[],_,_,_=>by simp[qn]
 | a::r,B,off,h=>by
  simp only[qn,qBn]at h⊢;obtain⟨⟨v,h1,h2⟩,h3⟩:=h;exact⟨⟨v,hro _ _ _ h1,hf a v h2⟩,qn.mapRel hro hf r h3⟩
def qS.mapRel{K K'}(hro:∀b o v,K.ro b o=some v->K'.ro b o=some v){f}(hf:∀a v,qf K a v->qf K' (f a) v):∀(c){B off sz:Nat},(c.map (·.map f)).all (·.all AV.atom)=true->qS K B off sz c->qS K' B off sz (c.map (·.map f))
 |[],_,_,_,_,_=>by simp[qS]
 | a::r,B,off,sz,ha,h=>by
  simp only[qS,qBn,qCz,qBf]at h ha⊢;obtain⟨⟨h1,h2,h3⟩,h4⟩:=h;exact⟨⟨by simpa using h1,ha.1,qn.mapRel hro hf a h3⟩,qS.mapRel hro hf r ha.2 h4⟩
def qhL(w:World):Nat->Nat->Option Value:=fun b o=>w.cell? ⟨b,o,none⟩
def qkX(h:WRel G w0 ro0 K U w){ro'}(hro:∀b o v,K.ro b o=some v->ro' b o=some v)(hnew:∀B o v,w0.heap.size<=B->K.ro B o=none->w.cell? ⟨B,o,none⟩=some v->ro' B o=some v):
 ∀(n){a:AV}{v:Value},qf K a v->qf (K0 ro') (frz U.H n a) v:=by
 have base:∀{a:AV} {v:Value},qL a=true->qf K a v->qf (K0 ro') a v:=fun hn hv=>(qf.toK0 _ hn hv).mono (qg8 hro)
 intro n
 induction n with
 | zero=>
  intro a v hv;unfold frz;split
  . rename_i hn;exact base hn hv
  simp[qf]
 | succ n ih=>
  intro a v hv;unfold frz;split
  . rename_i hn;exact base hn hv
  cases a with
  | ptr b off=>
   simp only;split
   . rename_i c hb;simp only[qf]at hv⊢;obtain⟨B,hm,rfl⟩:=hv;obtain⟨B',g1,g2,g3,⟨cs,el,g4,g5,g6,g7⟩,g8⟩:=h.blk b _ hb;rw[hm]at g1;cases g1;refine⟨B,off,rfl,qF2 B _ _ fun i x e=>?_⟩;rw[qBD,qBj]at e;obtain⟨y,e1,rfl⟩:=e;rw[qB8]at e1;obtain⟨u,u1,u2⟩:=g7 _ _ e1;refine⟨u,hnew _ _ _ g2 (g8 _) ?_,ih u2⟩;simp only[World.cell?,g4];exact u1
   simp[qf]
  | ms b off len sz=>
   simp only;split
   . rename_i c hb;split
     . rename_i hl;obtain⟨hl,hat⟩:=hl;simp only[qf]at hv⊢;obtain⟨B,cap,hm,rfl,h1,h2⟩:=hv;obtain⟨B',g1,g2,g3,⟨cs,el,g4,g5,g6,g7⟩,g8⟩:=h.blk b _ hb;rw[hm]at g1;cases g1;obtain⟨k1,k2⟩:=JW sz len (c.drop off) (by simp;omega);refine .inr ⟨B,off,cap,by simp[k1],by simpa[k1] using h1,qF3 B sz _ off fun i r e=>?_,trivial⟩;have hatr:=qBk.1 hat r (qBb e);rw[qBD,qBj]at e;obtain⟨r0,e0,rfl⟩:=e;obtain⟨e1,e2⟩:=k2 i r0 e0;have hmul:(i+1)*sz<=len*sz:=qCh _ (by omega);rw[qCl,qEz]at hmul;refine⟨by rw[e1];simp;omega,hatr,qF2 B _ _ fun j x ex=>?_⟩;rw[qBD,qBj]at ex;obtain⟨y,ey,rfl⟩:=ex;rw[e1,qCj]at ey;split at ey
       . rw[qB8,qB8]at ey;obtain⟨u,u1,u2⟩:=g7 _ _ ey;refine⟨u,hnew _ _ _ g2 (g8 _) ?_,ih u2⟩;simp only[World.cell?,g4];simpa[qDb] using u1
       cases ey
     simp[qf]
   simp[qf]
  | rptr c=>
   simp only[qf]at hv⊢;obtain⟨B,off,h1,h2⟩:=hv;exact⟨B,off,h1,qn.mapRel hro (fun a v=>ih) c h2⟩
  | sl sz rows tok=>
   simp only;split
   . rename_i hat;simp only[qf]at hv⊢;rcases hv with⟨h1,h2,h3⟩|⟨B,off,cap,h1,h2,h3,h4⟩
     . subst h2;obtain⟨a0,h1,_⟩:=h1;exact .inl ⟨⟨a0,h1,.inr trivial⟩,rfl,trivial⟩
     exact .inr ⟨B,off,cap,by simpa using h1,by simpa using h2,qS.mapRel hro (fun a v=>ih) rows hat h3,trivial⟩
   simp[qf]
  | fn f a b=>
   simp only[qf]at hv⊢;obtain⟨va,vb,h1,h2,h3⟩:=hv;exact⟨va,vb,h1,qFs (fun a v=>ih) a h2,qFs (fun a v=>ih) b h3⟩
  | agg c=>
   simp only[qf]at hv⊢;obtain⟨vs,h1,h2⟩:=hv;exact⟨vs,h1,qFs (fun a v=>ih) c h2⟩
  | tup c=>
   simp only[qf]at hv⊢;obtain⟨vs,h1,h2⟩:=hv;exact⟨vs,h1,qFs (fun a v=>ih) c h2⟩
  |_=>simp[qf]
def qsG(h:WRel G w0 ro0 K U w)(n){a v}(hv:qf K a v):qf (K0 (qhL w)) (frz U.H n a) v :=
 qkX h (ro':=qhL w) (fun b o v e=>h.ro b o v e) (fun _ _ _ _ _ e=>e) n hv
def qkY(h:WRel G w0 ro0 K U w)(n){a v}(hv:qf K a v):qf (K0 (Qf w0 w K.ro)) (frz U.H n a) v :=
 qkX h (ro':=Qf w0 w K.ro) (fun b o v e=>YP _ _ _ _ _ _ e) (fun B o v hb hr e=>by simp only[Qf,hr];rwa[if_pos hb]) n hv
def qsM:AV->Bool
 |.bool _|.int ..|.str _|.nilp|.nilm|.nilf=>true
 |.sl _ rows tok=>rows.isEmpty&&(match tok with|.chain .. =>false|_=>true)
 |_=>false
def flat:AV->Bool
 |.agg c=>c.all qsM
 |.tup c=>c.all qsM
 |v=>qsM v
def qiE:AV->Bool
 |.bool _|.int ..|.str _|.nilp|.nilm|.nilf=>true
 |_=>false
def qt7:AV->Bool
 |.agg c=>c.all qiE
 |.tup c=>c.all qiE
 |v=>qiE v
def qdA{K K' a v}(hf:qiE a=true)(h:qf K a v):qf K' a v:=by
 cases a<;>simp only[qiE]at hf<;>first|(cases hf;done)|simpa[qf] using h
def WN{K K'}:∀(l){vs:List Value},l.all qiE=true->qi K l vs->qi K' l vs
 |[],_,_,h=>by simpa[qi] using h
 | a::r,_,hf,h=>by
  simp only[qi,qCz,qBf]at h hf⊢;obtain⟨v,vr,h1,h2,h3⟩:=h;exact⟨v,vr,h1,qdA hf.1 h2,WN r hf.2 h3⟩
def qpc{K K' a v}(hf:qt7 a=true)(h:qf K a v):qf K' a v:=by
 unfold qt7 at hf;split at hf
 . simp only[qf]at h⊢;obtain⟨vs,h1,h2⟩:=h;exact⟨vs,h1,WN _ hf h2⟩
 . simp only[qf]at h⊢;obtain⟨vs,h1,h2⟩:=h;exact⟨vs,h1,WN _ hf h2⟩
 exact qdA hf h
def Zb(P:Program)(G:Nat->AV)(g:FuncId)(args:List AV)(U:St)(r:AV):Prop :=
 (qx (args.map plain)=true/\Pure P G g (args.map plain) r)\/(qt7 r=true/\Pure P G g (args.map (frz U.H 8)) r)
def WRel.keep(hw:WRel G w0 ro0 K U w){ro'}(hb:Below w.heap.size w w')(h1:∀b o v,K.ro b o=some v->ro' b o=some v)(h2:∀b o v,ro' b o=some v->w'.cell? ⟨b,o,none⟩=some v)
 (h3:∀b o v,ro' b o=some v->b<w.heap.size->K.ro b o=some v):K.le {K with ro:=ro'}/\WRel G w0 ro0 {K with ro:=ro'} U w':=by
 have hle:K.le {K with ro:=ro'}:=⟨h1,fun _ _ e=>e,qBl _,fun t C _ e=>⟨C,e,.inl rfl⟩,fun _ _ _=>rfl,fun _ _ e=>e,fun _ _ e=>e⟩;have hsz:=hw.size_le;refine⟨hle,hw.below.trans (hb.mono hsz),fun g=>(hw.glob g).mono (J3 hle),h2,fun b o v e hlt=>hw.new b o v (h3 b o v e (by omega)) hlt,?_,hw.inj,hw.mlt,?_,hw.chd,hw.chinj,hw.nch,fun i B cs el fr e1 e2=>by
  rw[hb.block B (hw.m_lt e1).1]at e2;exact hw.bsz i B cs el fr e1 e2,fun B x e=>by
  obtain⟨g1,g2,g3,g4⟩:=hw.fx B x e;exact⟨by rw[hb.block B (qB3.1 g1).1];exact g1,g2,g3,g4⟩,hw.rwl⟩
 . intro i b e;obtain⟨B,a1,a2,a3,a4,a5⟩:=hw.blk i b e;refine⟨B,a1,a2,qBt a3 hb.size,by rw[hb.block B a3];exact a4.mono hle,fun o=>?_⟩
   cases hr:ro' B o with
   |none=>exact hr
   |some u=>have:=h3 B o u hr a3;rw[a5 o]at this;cases this
 intro t k e;obtain⟨C,a1,a2,a3,a4,⟨cs,el,a5,a6⟩,a7,a8⟩:=hw.ch t k e;have hlt:=(hw.ch_lt a1).1;refine⟨C,a1,a2,a3,a4,⟨cs,el,by rw[hb.block _ hlt];exact a5,a6⟩,fun o ho=>?_,a8⟩
 cases hr:ro' C.B o with
 |none=>exact hr
 |some u=>have:=h3 C.B o u hr hlt;rw[a7 o ho]at this;cases this
def qu2(hw:WRel G w0 ro0 K U w){g args r}(hp:Zb P G g args U r){vs}(hvs:qi K args vs.toList):
 Calls P g vs w fun e w'=>∃v' K',e=.returned v'/\K.le K'/\WRel G w0 ro0 K' U w'/\qf K' r v':=by
 rcases hp with⟨hno,hp⟩|⟨hfl,hp⟩
 . have hvs':qi (K0 K.ro) (args.map plain) vs.toList:=qi.toK0 _ hno (qFs (fun _ _=>qj5) _ hvs);refine(hp.2 w K.ro vs hw.glob hw.ro hvs').mono ?_;rintro e w' ⟨v',ro',rfl,hb,h1,h2,h3,h4⟩;obtain⟨hle,hw'⟩:=hw.keep hb h1 h2 h3;exact⟨v',{K with ro:=ro'},rfl,hle,hw',h4.mono (qwu _)⟩
 have hvs':qi (K0 (qhL w)) (args.map (frz U.H 8)) vs.toList:=qFs (fun _ _=>qsG hw 8) _ hvs;have hro:=hw.ro;refine(hp.2 w (qhL w) vs (fun g=>(hw.glob g).mono (qg8 hro)) (fun _ _ _ e=>e) hvs').mono ?_;rintro e w' ⟨v',ro',rfl,hb,h1,h2,h3,h4⟩;obtain⟨hle,hw'⟩:=hw.keep (ro':=K.ro) hb (fun _ _ _ e=>e) (fun b o v e=>h2 b o v (h1 b o v (hro b o v e))) (fun _ _ _ e _=>e);exact⟨v',_,rfl,hle,hw',qpc hfl h4⟩
def Zb.bodied{g args r}(h:Zb P G g args U r):bodied P g=true:=by
 rcases h with h|h
 . exact h.2.1
 exact h.2.1
def Zb.acall{G:Glo}{g:FuncId}{args:List AV}{r:AV}{Q:AV->St->Prop}(h:Zb P G g args U r)(hq:Q r U):qj P G g args U Q :=
 ⟨h.bodied,fun w0 ro0 K w vs hw hvs=>(qu2 hw h hvs).mono fun e w' ⟨v',K',h1,h2,h3,h4⟩=>.inl ⟨v',r,U,K',h1,h2,h3,h4,hq⟩⟩
end
def qnT:AV->AV->Option (List Bool)
 |.sl _ (_::_) _,.sl _ [] .nil=>some [false]
 |.sl _ [] .nil,.sl _ [] .nil=>some [true]
 |.sl _ [] _,.sl _ [] .nil=>some [true,false]
 |.ms ..,.sl _ [] .nil=>some [false]
 |.nilp,.nilp=>some [true]
 |.ptr ..,.nilp=>some [false]
 |.rptr _,.nilp=>some [false]
 |.nilm,.nilm=>some [true]
 |.map _,.nilm=>some [false]
 |.nilf,.nilf=>some [true]
 |.fn ..,.nilf=>some [false]
 |_,_=>none
def TD.isSl:TD->Bool|.sl _=>true|_=>false
def TD.isPtr:TD->Bool|.ptr _=>true|_=>false
def TD.isMap:TD->Bool|.map .. =>true|_=>false
def TD.isFn:TD->Bool|.fn=>true|_=>false
def TD.isSl_spec{d:TD}(h:d.isSl=true):∃e,d=.sl e:=by cases d<;>simp[TD.isSl]at h;exact⟨_,rfl⟩
def TD.isPtr_spec{d:TD}(h:d.isPtr=true):∃e,d=.ptr e:=by cases d<;>simp[TD.isPtr]at h;exact⟨_,rfl⟩
def TD.isMap_spec{d:TD}(h:d.isMap=true):∃k e,d=.map k e:=by cases d<;>simp[TD.isMap]at h;exact⟨_,_,rfl⟩
def TD.isFn_spec{d:TD}(h:d.isFn=true):d=.fn:=by cases d<;>simp[TD.isFn]at h;rfl
def JF(d:TD):AV->Bool
 |.sl .. =>d.isSl
 |.ms .. =>d.isSl
 |.nilp=>d.isPtr
 |.ptr .. =>d.isPtr
 |.rptr _=>d.isPtr
 |.nilm=>d.isMap
 |.map _=>d.isMap
 |.nilf=>d.isFn
 |.fn .. =>d.isFn
 |_=>false
def VU(D:Nat->Option TI)(neg:Bool)(t:Nat)(x y:AV)(U:St):Option (List (AV×St)) :=
 match qnT x y with
 |some l=>if JF (qR D t) x then some (l.map fun b=>(.bool (b != neg),U)) else none
 |none=>none
def YM(U:St)(j:TI)(x:AV):Option (Nat×List AV) :=
 match x with
 |.sl sz rows _=>if sz=j.size\/rows=[] then some (rows.length,rows.flatten) else none
 | .ms b off len sz=>if sz=j.size then(match U.H[b]? with
  |some (.cells c)=>(cut c off (len*sz)).map fun s=>(len,s)
  |_=>none) else none
 |_=>none
def zY(D:Nat->Option TI)(U:St)(t u:Nat)(s x:AV):Option (AV×St) :=
 match D t with
 | some i=>match i.d with
  | .sl e=>match D e with
   | some j=>
    if 0<j.size/\j.zero.length=j.size/\j.bytes<=256 then
     match qR D u with
     | .int _=>match s,x with
      |.sl _ [] .nil,.int _ n=>if 0<n/\n<=549755813888/\j.zero.all AV.atom=true then some (.ms U.H.length 0 n.toNat j.size,U.push (.cells (List.replicate n.toNat j.zero).flatten)) else none
      |_,_=>none
     | .sl _=>match YM U j x with
      | some (n,src)=>
       if n=0 then none else
       match s with
       | .sl sz rows tok=>match tok with
        |.nil=>if rows.length+n<=549755813888 then some (.ms U.H.length 0 (rows.length+n) j.size,U.push (.cells (rows.flatten++src))) else none
        |.tight=>if(sz=j.size\/rows=[])/\rows.length+n<=549755813888 then some (.ms U.H.length 0 (rows.length+n) j.size,U.push (.cells (rows.flatten++src))) else none
        |_=>none
       | .ms b off len sz=>match U.H[b]? with
        | some (.cells c)=>if sz=j.size/\off=0/\len+n<=549755813888/\len*sz<=c.length then
         some (.ms U.H.length 0 (len+n) sz,{U with H:=U.H.set b .dead++[.cells (c.take (len*sz)++src)]})
         else none
        |_=>none
       |_=>none
      |none=>none
     |_=>none
    else none
   |none=>none
  |_=>none
 |none=>none
def zr(D:Nat->Option TI)(U:St)(t u:Nat)(s x:AV):Option (AV×St) :=
 match zY D U t u s x with
 |some p=>some p
 | none=>match s,x with
  | .ms b off len sz,.sl sz' [] tok=>(match qR D t,qR D u with
   |.sl e,.sl _=>(match D e with|some j=>some (.ms b off len sz,U)|none=>none)
   |_,_=>none)
  |_,_=>none
def qt5(D:Nat->Option TI)(t:Nat)(x:AV):Option AV :=
 match D t with
 | some i=>match i.d,x with
  |.sl _,.sl _ [] .nil=>some (.int .i64 0)
  |_,_=>none
 |none=>none
def qbG:AV->Option Nat
 |.sl _ rows _=>some rows.length
 |.ms _ _ len _=>some len
 |_=>none
def qpP(U:St)(sz m:Nat):AV->Option (List AV)
 |.sl s rows _=>if s=sz/\m<=rows.length then some (rows.take m).flatten else none
 | .ms b off len s=>if s=sz/\m<=len then(match U.H[b]? with
  |some (.cells c)=>cut c off (m*sz)
  |_=>none) else none
 |_=>none
def kE(D:Nat->Option TI)(U:St)(t:Nat)(d s:AV):Option (AV×St) :=
 match D t,qbG d,qbG s with
 | some i,some dl,some n=>match i.d with
  | .sl e=>match D e with
   | some j=>
    if min n dl=0 then some (.int .i64 0,U) else
    match d with
    | .ms b off len sz=>if sz=j.size then(match qpP U sz (min n len) s,U.H[b]? with
     |some src,some (.cells c)=>if off+min n len*sz<=c.length then some (.int .i64 (min n len:Nat),{U with H:=U.H.set b (.cells (zx c off src))}) else none
     |_,_=>none) else none
    |_=>none
   |none=>none
  |_=>none
 |_,_,_=>none
def mkX(D:Nat->Option TI)(mu:Bool)(U:St)(t:Nat)(l c:AV):Option (List (AV×St)) :=
 match mu,l,c with
 | true,.int _ 0,.int _ 0=>(match qD D U t l c with
  |some (.sl sz [] _,U')=>some [(.sl sz [] .tight,U')]
  |_=>none)
 |_,_,_=>none
@[simp]def qkr{D U t l c}:mkX D false U t l c=none:=by unfold mkX;rfl
def qch(D:Nat->Option TI)(G:Nat->AV)(mu:Bool)(env:Env)(U:St):Op->Option (List (AV×St))
 |.makeSlice t l c=>mkX D mu U t (ev G env l) (ev G env c)
 | .binOp o t x y _=>match o with
  |.eql=>VU D false t (ev G env x) (ev G env y) U
  |.neq=>VU D true t (ev G env x) (ev G env y) U
  |_=>none
 | .call {callee:=.builtin b,args:=args,argTypes:=ts}=>match b,ts.toList,args.toList with
  | .append,[t,u],[s,x]=>match mu with
   |true=>(zr D U t u (ev G env s) (ev G env x)).map fun p=>[p]
   |false=>none
  |.cap,[t],[x]=>(qt5 D t (ev G env x)).map fun v=>[(v,U)]
  |.copy,[t,_],[d,s]=>(kE D U t (ev G env d) (ev G env s)).map fun p=>[p]
  |_,_,_=>none
 |_=>none
section
variable {P:Program}{G:Nat->AV}{w0:World}{ro0:Nat->Nat->Option Value}{K:Kn}{U:St}{w w':World}{N:Nat}{env:Env}{a:Act}
def jG{t d}(h:qR (Dof P) t=d)(hd:d≠.other):∃d',P.underlying t=some d'/\QK P d'=d:=by
 unfold qR at h;split at h
 . rename_i i hD;obtain⟨inf,d',z,hi,hu,_,rfl⟩:=qE hD;exact⟨d',hu,h⟩
 exact absurd h.symm hd
def qux{d:TypeDesc}{e}(h:QK P d=.ptr e):d=.pointer e:=by
 cases d<;>simp[QK]at h
 . exact h▸rfl
 split at h<;>cases h
def qya{d:TypeDesc}(h:QK P d=.fn):∃a b c,d=.func a b c:=by
 cases d<;>simp only[QK]at h<;>first|exact⟨_,_,_,rfl⟩|(cases h;done)|(split at h<;>cases h)
def Y0{t e:Nat}(hu:P.underlying t=some (.slice e))(bx:Option Addr)(n c:Nat):(Op.equal t (.slice bx n c) (.slice none 0 0)).run P w=.ok bx.isNone w:=by
 show(Op.equalIn (9999+1) t _ _).run P w=_;rw[Op.equalIn];simp only[Sem.run_bind,run_underlying hu,Result.andThen_ok];cases bx<;>rfl
def qlb{t e:Nat}(hu:P.underlying t=some (.pointer e))(bx:Option Addr):(Op.equal t (.pointer bx) (.pointer none)).run P w=.ok bx.isNone w:=by
 show(Op.equalIn (9999+1) t _ _).run P w=_;rw[Op.equalIn];simp only[Sem.run_bind,run_underlying hu,Result.andThen_ok];cases bx<;>rfl
def qqn{t k e:Nat}(hu:P.underlying t=some (.map k e))(bx:Option Nat):(Op.equal t (.map bx) (.map none)).run P w=.ok bx.isNone w:=by
 show(Op.equalIn (9999+1) t _ _).run P w=_;rw[Op.equalIn];simp only[Sem.run_bind,run_underlying hu,Result.andThen_ok];cases bx<;>rfl
def qvX{t:Nat}{a b:Array TypeId}{c:Bool}(hu:P.underlying t=some (.func a b c)):(Op.equal t .nilFunc .nilFunc).run P w=.ok true w:=by
 show(Op.equalIn (9999+1) t _ _).run P w=_;rw[Op.equalIn];simp only[Sem.run_bind,run_underlying hu,Result.andThen_ok];rfl
def qvW{t:Nat}{a b:Array TypeId}{c:Bool}(hu:P.underlying t=some (.func a b c))(f:Fn)(x y:Array Value):(Op.equal t (.func f x y) .nilFunc).run P w=.ok false w:=by
 show(Op.equalIn (9999+1) t _ _).run P w=_;rw[Op.equalIn];simp only[Sem.run_bind,run_underlying hu,Result.andThen_ok];rfl
def qzu:Value->Bool
 |.slice .. =>true
 |.pointer _=>true
 |.map _=>true
 |.nilFunc=>true
 |.func .. =>true
 |_=>false
def qh1{t x y l x' y'}(hx:qf K x x')(hy:qf K y y')(hl:qnT x y=some l)(hfit:JF (qR (Dof P) t) x=true):
 ∃b∈l,(Op.equal t x' y').run P w=.ok b w/\qzu x'=true:=by
 have nils:∀{sz:Nat},qf K (.sl sz [] .nil) y'->y'=.slice none 0 0:=by
  intro sz h;simp only[qf]at h;rcases h with⟨⟨a0,h1,ha0⟩,_⟩|⟨B,off,cap,h1,h2,h3,h4⟩
  . rw[h1,ha0.resolve_right (by simp)]
  simp[wz]at h4
 have slT:(qR (Dof P) t).isSl=true->∃e,P.underlying t=some (.slice e):=by
  intro he;obtain⟨e,he⟩:=TD.isSl_spec he;obtain⟨d',hu,hd'⟩:=jG he (by simp);exact⟨e,by rw[hu,Q6 hd']⟩
 have ptrT:(qR (Dof P) t).isPtr=true->∃e,P.underlying t=some (.pointer e):=by
  intro he;obtain⟨e,he⟩:=TD.isPtr_spec he;obtain⟨d',hu,hd'⟩:=jG he (by simp);exact⟨e,by rw[hu,qux hd']⟩
 have mapT:(qR (Dof P) t).isMap=true->∃k e,P.underlying t=some (.map k e):=by
  intro he;obtain⟨k,e,he⟩:=TD.isMap_spec he;obtain⟨d',hu,hd'⟩:=jG he (by simp);exact⟨k,e,by rw[hu,qb2 hd']⟩
 have fnT:(qR (Dof P) t).isFn=true->∃a b c,P.underlying t=some (.func a b c):=by
  intro he;obtain⟨d',hu,hd'⟩:=jG (TD.isFn_spec he) (by simp);obtain⟨a,b,c,rfl⟩:=qya hd';exact⟨a,b,c,hu⟩
 have slOf:∀{sz rows tok},qf K (.sl sz rows tok) x'->∃bx n c,x'=.slice bx n c/\(rows≠[]->bx.isNone=false)/\(tok=.nil->bx=none):=by
  intro sz rows tok h;simp only[qf]at h;rcases h with⟨⟨a0,h1,ha0⟩,h2,_⟩|⟨B,off,cap,h1,h2,h3,h4⟩
  . exact⟨a0,0,0,h1,fun hne=>absurd h2 hne,fun ht=>ha0.resolve_right (by rw[ht];simp)⟩
  exact⟨_,_,_,h1,fun _=>rfl,fun ht=>by subst ht;simp[wz]at h4⟩
 unfold qnT at hl;split at hl
 case h_12=>cases hl
 all_goals cases hl
 all_goals simp only[JF]at hfit
 . obtain⟨e,hu⟩:=slT hfit;have:=nils hy;subst this;obtain⟨bx,n,c,rfl,h1,h2⟩:=slOf hx;exact⟨false,by simp,by rw[Y0 hu,h1 (by simp)],rfl⟩
 . obtain⟨e,hu⟩:=slT hfit;have:=nils hy;subst this;obtain⟨bx,n,c,rfl,h1,h2⟩:=slOf hx;exact⟨true,by simp,by rw[Y0 hu,h2 rfl];rfl,rfl⟩
 . obtain⟨e,hu⟩:=slT hfit;have:=nils hy;subst this;obtain⟨bx,n,c,rfl,h1,h2⟩:=slOf hx;exact⟨bx.isNone,by cases bx<;>simp,Y0 hu _ _ _,rfl⟩
 . obtain⟨e,hu⟩:=slT hfit;have:=nils hy;subst this;simp only[qf]at hx;obtain⟨B,cap,hm,rfl,_⟩:=hx;exact⟨false,by simp,by rw[Y0 hu];rfl,rfl⟩
 . obtain⟨e,hu⟩:=ptrT hfit;simp only[qf]at hx hy;subst hx;subst hy;exact⟨true,by simp,by rw[qlb hu];rfl,rfl⟩
 . obtain⟨e,hu⟩:=ptrT hfit;simp only[qf]at hx hy;obtain⟨B,hm,rfl⟩:=hx;subst hy;exact⟨false,by simp,by rw[qlb hu];rfl,rfl⟩
 . obtain⟨e,hu⟩:=ptrT hfit;simp only[qf]at hx hy;obtain⟨B,off,rfl,_⟩:=hx;subst hy;exact⟨false,by simp,by rw[qlb hu];rfl,rfl⟩
 . obtain⟨k,e,hu⟩:=mapT hfit;simp only[qf]at hx hy;subst hx;subst hy;exact⟨true,by simp,by rw[qqn hu];rfl,rfl⟩
 . obtain⟨k,e,hu⟩:=mapT hfit;simp only[qf]at hx hy;obtain⟨B,hm,rfl⟩:=hx;subst hy;exact⟨false,by simp,by rw[qqn hu];rfl,rfl⟩
 . obtain⟨u1,u2,u3,hu⟩:=fnT hfit;simp only[qf]at hx hy;subst hx;subst hy;exact⟨true,by simp,qvX hu,rfl⟩
 obtain⟨u1,u2,u3,hu⟩:=fnT hfit;simp only[qf]at hx hy;obtain⟨va,vb,rfl,_,_⟩:=hx;subst hy;exact⟨false,by simp,qvW hu _ _ _,rfl⟩
def Yd(h:WRel G w0 ro0 K U w){t x y l x' y'}(hx:qf K x x')(hy:qf K y y'){neg}(hf:VU (Dof P) neg t x y U=some l)(ox oy):
 ∃v U',(v,U')∈l/\U'=U/\∃v',(do eqGuard (if neg then .neq else .eql) t ox oy x' y';binOp (if neg then .neq else .eql) t x' y':Sem Value).run P w=.ok v' w/\qf K v v':=by
 unfold VU at hf;split at hf
 . rename_i bs hbs;split at hf
   . rename_i hfit;simp only[qBu]at hf;subst hf;obtain⟨b,hb,hrun,h1⟩:=qh1 (w:=w) hx hy hbs hfit;refine⟨.bool (b != neg),U,qBA.2 ⟨b,hb,rfl⟩,rfl,.bool (b != neg),?_,by simp[qf]⟩;cases neg<;>cases x'<;>simp only[qzu]at h1<;>first|(cases h1;done)|skip
     all_goals
      simp only[qBE,if_false,if_true];rw[Sem.run_bind];simp only[eqGuard,pure];simp[binOp,hrun]
   cases hf
 cases hf
end
section
variable {P:Program}{G:Nat->AV}{w0:World}{ro0:Nat->Nat->Option Value}{K:Kn}{U:St}{w w':World}{N:Nat}{env:Env}{a:Act}
def JB(t tx ty e el)(i:TypeInfo)(ht:P.underlying t=some (.slice e))(hi:P.info? e=some i)(b sLen sCap cur)(hg:w.heap[b]?=some (.cells cur el (0,0)))
 (x n news) (hs:Src P i.size tx x n news w) (hroom:sLen+n<=sCap) (hfit:sLen*i.size+news.length<=cur.size):
 (Builtin.append_ #[t,tx] ty #[.slice (some ⟨b,0,none⟩) sLen sCap,x]).run P w=.ok (.slice (some ⟨b,0,none⟩) (sLen+n) sCap)
   (w.setRow b (cur.toList.take (sLen*i.size)++news++cur.toList.drop (sLen*i.size+news.length)).toArray):=by
 have hst:=run_storeCells_at P b (sLen*i.size) el news 0 cur w hg (by simpa using hfit) hs.one;simp only[qCB]at hst;rcases hs.kind with⟨e',hk⟩|hk<;>simp[Builtin.append_,run_underlying ht,run_underlying hk,sizeOf,typeInfo,hi,hs.len,hroom,hs.cells,Addr.add_lit,hst]
def qjr(h:WRel G w0 ro0 K U w){j:TI}{x:AV}{x':Value}(hx:qf K x x'){n:Nat}{src:List AV}(hf:YM U j x=some (n,src))(hn:n≠0){u e':Nat}(hu:P.underlying u=some (.slice e')){size:Nat}(hsz:j.size=size):
 ∃news,qi K src news/\src.all AV.atom=true/\Src P size u x' n news w/\src.length=n*size:=by
 unfold YM at hf;split at hf
 . rename_i sz rows tok;split at hf
   . rename_i hc;simp only[qBu,qBs]at hf;obtain⟨rfl,rfl⟩:=hf;have hne:rows≠[]:=fun e=>hn (by simp[e])
     have hsz':sz=size:=(hc.resolve_right hne).trans hsz;subst hsz';simp only[qf]at hx;rcases hx with⟨_,h2,_⟩|⟨B,off,cap,rfl,hcap,hrows,_⟩
     . exact absurd h2 hne
     obtain⟨vs,g1,g2,g3,g4,g5⟩:=wW h hrows;exact⟨vs,g1,g4,Src.ofSlice w hu _ _ _ vs g2 g3 g5,by rw[<- g1.length,g2]⟩
   cases hf
 . rename_i b off len sz;split at hf
   . rename_i hsz1;have hsz':sz=size:=hsz1.trans hsz;subst hsz';split at hf
     . rename_i c hb;obtain⟨s,hs,he⟩:=qBj.1 hf;simp only[qBs]at he;obtain⟨rfl,rfl⟩:=he;unfold cut at hs;split at hs
       . rename_i hl;simp only[qBu]at hs;subst hs;simp only[qf]at hx;obtain⟨B,cap,hm,rfl,hcap,hpos,hbs⟩:=hx;obtain⟨vs,l1,l2⟩:=qiK.of_blk h hb hm off (len*sz) hl;obtain⟨B',g1,g2,g3,⟨cs,el,g4,g5,g6,g7⟩,g8⟩:=h.blk b _ hb;have hat:((c.drop off).take (len*sz)).all AV.atom=true:=by
          rw[qBk]at g5⊢;exact fun x hx=>g5 x (qCJ (qBW hx))
         have hlen:((c.drop off).take (len*sz)).length=len*sz:=(by simp;omega);exact⟨vs,l1,hat,Src.ofSlice w hu _ _ _ vs (by rw[l1.length,hlen]) (fun j v e=>by rw[jx];exact l2 j v e) (l1.oneCells hat),hlen⟩
       cases hs
     cases hf
   cases hf
 cases hf
def WRel.again(h:WRel G w0 ro0 K U w){b B c b'}(hb:U.H[b]?=some (.cells c))(hm:K.m b=some B)(hos:w'.os=w.os)(htape:w'.tape=w.tape)(hout:w'.output=w.output)
 (hsz:w'.heap.size=w.heap.size) (hother:∀k,k≠B->w'.heap[k]?=w.heap[k]?) (hb':yn K b' w'.heap[B]?) (hbs:∀cs el fr,w'.heap[B]?=some (.cells cs el fr)->cs.size=K.bs b)
 (hwas:∀cs el fr,w'.heap[B]?=some (.cells cs el fr)->∃cs0 el0 fr0,w.heap[B]?=some (.cells cs0 el0 fr0)):
 K.le (K.addM U.H.length B (K.bs b))/\WRel G w0 ro0 (K.addM U.H.length B (K.bs b)) {U with H:=U.H.set b .dead++[b']} w':=by
 have hbl:b<U.H.length:=(qBa.1 hb).1;have hle:=qFM h B (K.bs b);have h1:=h.setBlk (b':=.dead) hbl hm hos htape hout hsz hother (by simp[yn]) (by rw[hb];simp) hbs hwas;have hlen:(U.H.set b .dead).length=U.H.length:=by simp
 have alone:∀i,K.m i=some B->(U.H.set b Blk.dead)[i]?=some Blk.dead:=by
  intro i hi;by_cases hib:i=b
  . subst hib;simp[hbl]
  rw[qBd (Ne.symm hib)];rcases h.inj i b B hi hm with h2|h2|h2
  . exact absurd h2 hib
  . exact h2
  rw[hb]at h2;cases h2
 refine⟨hle,⟨h1.below,fun g=>(h1.glob g).mono (J3 hle),h1.ro,h1.new,?_,?_,?_,?_,h1.chd,h1.chinj,?_,?_,?_,?_⟩⟩
 . intro i b2 e;simp only[qCc]at e;split at e
   . rename_i hi;obtain⟨B2,g1,g2,g3,g4,g5⟩:=h1.blk i b2 e;exact⟨B2,hle.m _ _ g1,g2,g3,g4.mono hle,g5⟩
   rename_i hi;have hi':i=U.H.length:=by
    rcases qEU (i-(U.H.set b .dead).length) 1 with h2|h2
    . omega
    simp[qBI (l:=[b']) (by simpa using h2)]at e
   subst hi';simp at e;subst e;obtain⟨B0,g1,g2,g3,g4,g5⟩:=h.blk b _ hb;rw[hm]at g1;cases g1;exact⟨B,by simp[Kn.addM],g2,by omega,hb'.mono hle,g5⟩
 . intro i j B2 e1 e2;simp only[Kn.addM]at e1 e2;have left:∀{i},(U.H.set b Blk.dead)[i]?=some Blk.dead->(U.H.set b Blk.dead++[b'])[i]?=some Blk.dead:=fun {i} hi=>by
    rw[qBq (qBa.1 hi).1];exact hi
   split at e1<;>split at e2
   . left;omega
   . simp at e1;subst e1;exact .inr (.inr (left (alone j e2)))
   . simp at e2;subst e2;exact .inr (.inl (left (alone i e1)))
   exact(h1.inj i j B2 e1 e2).imp_right (Or.imp left left)
 . intro i B2 e;simp only[Kn.addM]at e;simp only[qBe,qCD,qBK];split at e
   . omega
   have:=h.mlt i B2 e;omega
 . intro t k e;obtain⟨C,g1,g2,g3,g4,g5,g6,g7⟩:=h1.ch t k e;refine⟨C,g1,g2,g3,g4,g5,g6,fun i e2=>?_⟩;simp only[Kn.addM]at e2;split at e2
   . simp at e2;exact g7 b (by rw[hm,e2])
   exact g7 i e2
 . exact h1.nch
 . intro i B2 cs el fr e1 e2;simp only[Kn.addM]at e1⊢;split at e1
   . rename_i hi;simp at e1;subst e1;simp[hi];exact h1.bsz b B cs el fr hm e2
   rename_i hi;simp only[hi,if_false];exact h1.bsz i B2 cs el fr e1 e2
 . intro B2 x e;obtain⟨g1,g2,g3,g4⟩:=h1.fx B2 x e;refine⟨g1,g2,fun i e2=>?_,g4⟩;simp only[Kn.addM]at e2;split at e2
   . simp at e2;exact g3 b (by rw[hm,e2])
   exact g3 i e2
 intro n x e;have:=h.rwl n x e;simp only[qBe,qCD,qBK];omega
def qaU(h:WRel G w0 ro0 K U w){content:List AV}{vs:List Value}(hv:qi K content vs)(hat:content.all AV.atom=true){z:Array Value}{len cap sz e:Nat}(hz:z.size=sz)(hsz:0<sz)(hlen:vs.length=len*sz)(hcap:len<=cap)(h0:0<len):
 ∃K',K.le K'/\WRel G w0 ro0 K' (U.push (.cells content)) (w.alloc (.cells (vs.toArray++Builtin.zeroCells z (cap-len)) e))/\qf K' (.ms U.H.length 0 len sz) (.slice (some ⟨w.heap.size,0,none⟩) len cap):=by
 have hsize:(vs.toArray++Builtin.zeroCells z (cap-len)).size=cap*sz:=by
  simp only[Array.size_append,qEg,size_zeroCells,hz,hlen,<- qCl];congr 1;omega
 refine⟨_,qFM h _ _,h.push (o:=.cells (vs.toArray++Builtin.zeroCells z (cap-len)) e) ⟨_,e,rfl,hat,?_,fun i a ea=>?_⟩,?_⟩
 . rw[hsize,<- hv.length,hlen];exact qCh _ hcap
 . obtain⟨v,e1,e2⟩:=hv.get i a ea;have hil:i<vs.length:=(qBa.1 e1).1;exact⟨v,by rw[qDT (by simpa using hil)];simpa using e1,e2⟩
 simp only[qf];exact⟨w.heap.size,cap,by simp[Kn.addM],rfl,hcap,by omega,by simp only[Kn.addM,if_true,j9,hsize];omega⟩
def qbw(h:WRel G w0 ro0 K U w){t u:Nat}{s x v:AV}{s' x':Value}(hs:qf K s s')(hx:qf K x x')(ty:Nat){U':St}(hf:zY (Dof P) U t u s x=some (v,U')):
 Ran P G w0 ro0 K w (Builtin.append_ #[t,u] ty #[s',x']) v U':=by
 unfold zY at hf;split at hf
 case h_2=>cases hf
 rename_i i hD;obtain⟨inf,d,z,hi,hu,_,rfl⟩:=qE hD;simp only at hf;split at hf
 case h_2=>cases hf
 rename_i e hd;have hd':=Q6 hd;subst hd';split at hf
 case h_2=>cases hf
 rename_i j hj;obtain⟨inf2,d2,z2,hi2,hu2,hz2,rfl⟩:=qE hj;simp only at hf;split at hf
 case isFalse=>cases hf
 rename_i hc;obtain⟨hc3,hc4,hc5⟩:=hc;have hzs:z2.cells.size=inf2.size:=by simpa using hc4
 have bound:∀m:Nat,m<=549755813888->m*inf2.bytes<=140737488355328:=fun m hm=>by
  calc m*inf2.bytes<=549755813888*256:=qDn hm hc5
   _<=140737488355328:=by omega
 split at hf
 . -- zeros
   rename_i kn hkn;obtain⟨du,hdu,hdu2⟩:=jG hkn (by simp);have:=J6 hdu2;subst this;split at hf
   case h_2=>cases hf
   rename_i sz0 k n;split at hf
   case isFalse=>cases hf
   rename_i hn;obtain⟨n0,n1,n2⟩:=hn;simp only[qBu,qBs]at hf;obtain⟨rfl,rfl⟩:=hf;simp only[qf]at hx;subst hx;have hs0:s'=.slice none 0 0:=by
    simp only[qf]at hs;rcases hs with⟨⟨a0,hs1,ha0⟩,_⟩|⟨B,off,cap,g1,g2,g3,g4⟩
    . rw[hs1,ha0.resolve_right (by simp)]
    simp[wz]at g4
   subst hs0;obtain⟨m,rfl⟩:=qBw (Int.le_of_lt n0);have hm0:0<m:=(by omega);have hm1:m<=549755813888:=(by omega);have hr:=Lib.run_append_nil_zeros (P:=P) w t u ty e inf2 z2 k kn hu hdu hi2 hz2 m hm0 hc3 (by omega) (by have:=bound m hm1;omega);have hge:=grownCap_ge w m 0 e;have hzr:=Y7 (K:=K) (z:=z2) (n:=m) (by omega);have hzl:((Array.range (m*z2.cells.size)).map (z2.cells[· % z2.cells.size]!)).toList.length=m*inf2.size:=(by simp[hzs]);obtain⟨K',k1,k2,k3⟩:=qaU (e:=e) h.drew hzr (by
    rw[qBk];intro x hx;obtain⟨l,hl1,hl2⟩:=qBH.1 hx;rw[(qC4.1 hl1).2]at hl2;rw[qBk]at n2;exact n2 x hl2) hzs hc3 hzl hge hm0
   refine⟨_,_,K',hr,k1,?_,?_⟩
   . simp only[qDj]at k2;exact k2
   simpa using k3
 . -- a slice
   rename_i eu heu;obtain⟨du,hdu,hdu2⟩:=jG heu (by simp);have:=Q6 hdu2;subst this;split at hf
   case h_2=>cases hf
   rename_i n src hsrc;split at hf
   . cases hf
   rename_i hn;obtain⟨news,n1,n2,n3,n4⟩:=qjr (P:=P) (u:=u) (size:=inf2.size) h hx hsrc hn hdu rfl;have nl:news.length=n*inf2.size:=n3.newsLen;have fromNil:∀(total:Nat),total=n->n<=549755813888->s'=.slice none 0 0->Ran P G w0 ro0 K w (Builtin.append_ #[t,u] ty #[s',x']) (.ms U.H.length 0 total inf2.size) (U.push (.cells src)):=by
    intro total ht hb hs0;subst ht;subst hs0;have hr:=run_append_grow_src (P:=P) w t u ty e inf2 z2 hu hi2 hz2 none 0 0 [] (by simpa using run_firstCells_none (P:=P) w.drew inf2.size 0 0 0) x' total news n3 (by omega) (by omega) (growslice_fits (by omega) (by have:=bound total hb;simpa using this));have hge:=grownCap_ge w total 0 e;obtain⟨K',k1,k2,k3⟩:=qaU (e:=e) h.drew n1 n2 hzs hc3 nl hge (by omega);simp only[qCH,qBy]at hr;exact⟨_,_,K',hr,k1,k2,by simpa using k3⟩
   have qeN:∀(rows:Nat) (content:List AV) (olds:List Value) (base:Addr),qi K content olds->content.all AV.atom=true->olds.length=rows*inf2.size->(∀j v,olds[j]?=some v->w.cell? (base.add j)=some v)->rows+n<=549755813888->∀cap,cap<rows+n ->
    ∃ K',K.le K'/\WRel G w0 ro0 K' (U.push (.cells (content++src))) (w.drew.alloc (.cells ((olds++news).toArray++Builtin.zeroCells z2.cells (grownCap w (rows+n) cap e-(rows+n))) e)) /\
     qf K' (.ms U.H.length 0 (rows+n) inf2.size) (.slice (some ⟨w.heap.size,0,none⟩) (rows+n) (grownCap w (rows+n) cap e)) /\
     (Builtin.append_ #[t,u] ty #[.slice (some base) rows cap,x']).run P w=.ok (.slice (some ⟨w.heap.size,0,none⟩) (rows+n) (grownCap w (rows+n) cap e))
       (w.drew.alloc (.cells ((olds++news).toArray++Builtin.zeroCells z2.cells (grownCap w (rows+n) cap e-(rows+n))) e)):=by
    intro rows content olds base o1 o2 o3 o4 hb cap hcap;have hr:=run_append_grow_src (P:=P) w t u ty e inf2 z2 hu hi2 hz2 (some base) rows cap olds (run_firstCells_some w.drew inf2.size rows base rows cap olds o3 (by simpa using o4)) x' n news n3 hcap (by omega) (growslice_fits (by omega) (bound _ hb));have hge:=grownCap_ge w (rows+n) cap e;obtain⟨K',k1,k2,k3⟩:=qaU (e:=e) h.drew (o1.append n1) (by rw[qCN,o2,n2];rfl) hzs hc3 (by rw[qBe,o3,nl,qCl]) hge (by omega);exact⟨K',k1,k2,by simpa using k3,hr⟩
   split at hf
   . rename_i sz rows tok;split at hf
     . -- nil
       split at hf
       case isFalse=>cases hf
       rename_i hb;simp only[qBu,qBs]at hf;obtain⟨rfl,rfl⟩:=hf;simp only[qf]at hs;rcases hs with⟨⟨a0,h1,ha0⟩,rfl,_⟩|⟨B,off,cap,g1,g2,g3,g4⟩
       . rw[ha0.resolve_right (by simp)]at h1;simpa using fromNil (0+n) (by omega) (by simpa using hb) h1
       simp[wz]at g4
     . -- no spare room
       split at hf
       case isFalse=>cases hf
       rename_i hb;obtain⟨hszr,hb⟩:=hb;simp only[qBu,qBs]at hf;obtain⟨rfl,rfl⟩:=hf;simp only[qf]at hs;rcases hs with⟨⟨a0,h1,ha0⟩,rfl,_⟩|⟨B,off,cap,rfl,hcap,hrows,htok⟩
       . rw[ha0.resolve_right (by simp)]at h1;simpa using fromNil (0+n) (by omega) (by simpa using hb) h1
       simp only[wz]at htok;subst htok;obtain⟨olds,o1,o2,o3,o4,o5⟩:=wW h hrows;have o2':olds.length=rows.length*inf2.size:=by
        rcases hszr with rfl|hr0
        . exact o2
        subst hr0;simpa using o2
       obtain⟨K',k1,k2,k3,k4⟩:=qeN rows.length rows.flatten olds ⟨B,off,none⟩ o1 o4 o2' o3 hb rows.length (by omega);exact⟨_,_,K',k4,k1,k2,k3⟩
     cases hf
   . rename_i b off len sz;split at hf
     case h_2=>cases hf
     rename_i c hb;split at hf
     case isFalse=>cases hf
     rename_i hcd;obtain⟨rfl,rfl,hb1,hb2⟩:=hcd;simp only[qBu,qBs]at hf;obtain⟨rfl,rfl⟩:=hf;simp only[qf]at hs;obtain⟨B,cap,hm,rfl,hcap,hpos,hbs⟩:=hs;obtain⟨B',g1,g2,g3,⟨cs,el,g4,g5,g6,g7⟩,g8⟩:=h.blk b _ hb;rw[hm]at g1;cases g1;have hcs:cs.size=K.bs b:=h.bsz b B cs el _ hm g4;obtain⟨olds,l1,l2⟩:=qiK.of_blk h hb hm 0 (len*inf2.size) (by omega);simp only[qCq,qCH]at l1 l2;have hat:(c.take (len*inf2.size)).all AV.atom=true:=by
      rw[qBk]at g5⊢;exact fun x hx=>g5 x (qBW hx)
     have ol:olds.length=len*inf2.size:=(by rw[l1.length];simp;omega);by_cases hroom:len+n<=cap
     . have hmul:(len+n)*inf2.size<=cap*inf2.size:=qCh _ hroom;rw[qCl]at hmul;have hr:=JB (P:=P) (w:=w) t u ty e el inf2 hu hi2 B len cap cs g4 x' n news n3 hroom (by rw[nl,hcs];omega);have hbk:yn K (.cells (c.take (len*inf2.size)++src)) (w.setRow B (cs.toList.take (len*inf2.size)++news++cs.toList.drop (len*inf2.size+news.length)).toArray).heap[B]?:=by
        refine⟨_,el,setRow_heap w B cs _ el _ g4,by rw[qCN,hat,n2];rfl,?_,fun i a ea=>?_⟩
        . simp[n4,nl];omega
        rw[qCc]at ea;simp only[qDs];split at ea
        . rename_i hil;simp only[qBV]at hil;rw[qCj]at ea;split at ea
          . obtain⟨v,e1,e2⟩:=g7 i a ea;refine⟨v,?_,e2⟩;rw[qBQ,qBq (by simp;omega),qCj,if_pos (by omega)];simpa using e1
          cases ea
        rename_i hil;simp only[qBV]at hil ea;obtain⟨v,e1,e2⟩:=n1.get _ _ ea;refine⟨v,?_,e2⟩;have hvl:=(qBa.1 e1).1;rw[qBQ,qBm (by simp;omega),qBq (by simp;omega)];simp only[qBV,qCv];rw[show min (len*inf2.size) cs.size=min (len*inf2.size) c.length by omega];exact e1
       obtain⟨q1,q2⟩:=h.again (b':=.cells (c.take (len*inf2.size)++src)) hb hm (w':=w.setRow B (cs.toList.take (len*inf2.size)++news++cs.toList.drop (len*inf2.size+news.length)).toArray) rfl rfl rfl (by simp[World.setRow]) (fun k hk=>setRow_other w B k _ hk) hbk
        (fun cs2 el2 fr2 e2=>by
          rw[setRow_heap w B cs _ el _ g4]at e2;cases e2;rw[<- hcs];simp[nl];omega) (fun _ _ _ _=>⟨cs,el,_,g4⟩)
       refine⟨_,_,_,hr,q1,q2,?_⟩;simp only[qf];exact⟨B,cap,by simp[Kn.addM],rfl,hroom,hpos,by simp only[Kn.addM,if_true];omega⟩
     obtain⟨K',k1,k2,k3,k4⟩:=qeN len (c.take (len*inf2.size)) olds ⟨B,0,none⟩ l1 hat ol (fun j v e=>by rw[jx];simpa using l2 j v e) hb1 cap (by omega);have hbl:b<U.H.length:=(qBa.1 hb).1;have hd:=h.drew.setBlk (w':=w.drew) (b':=.dead) hbl hm rfl rfl rfl rfl (fun _ _=>rfl) (by simp[yn]) (by rw[hb];simp) (fun cs2 el2 fr2 e2=>h.drew.bsz b B cs2 el2 fr2 hm e2) (fun cs2 el2 fr2 e2=>⟨cs2,el2,fr2,e2⟩);have hge:=grownCap_ge w (len+n) cap e;obtain⟨K2,j1,j2,j3⟩:=qaU (e:=e) hd (l1.append n1) (by rw[qCN,hat,n2];rfl) hzs hc3 (by rw[qBe,ol,nl,qCl]) hge (by omega);refine⟨_,_,K2,k4,j1,?_,?_⟩
     . simpa[St.push] using j2
     simpa using j3
   cases hf
 cases hf
def qbv(h:WRel G w0 ro0 K U w){t u:Nat}{s x v:AV}{s' x':Value}(hs:qf K s s')(hx:qf K x x')(ty:Nat){U':St}(hf:zr (Dof P) U t u s x=some (v,U')):
 Ran P G w0 ro0 K w (Builtin.append_ #[t,u] ty #[s',x']) v U':=by
 unfold zr at hf;split at hf
 . rename_i p hp;simp only[qBu]at hf;subst hf;exact qbw h hs hx ty hp
 split at hf
 case h_2=>cases hf
 rename_i b off len sz sz' tok;split at hf
 case h_2=>cases hf
 rename_i e eu he heu;split at hf
 case h_2=>cases hf
 rename_i j hj;simp only[qBu,qBs]at hf;obtain⟨rfl,rfl⟩:=hf;obtain⟨d1,hu,hd1⟩:=jG he (by simp);have:=Q6 hd1;subst this;obtain⟨d2,hu2,hd2⟩:=jG heu (by simp);have:=Q6 hd2;subst this;obtain⟨inf2,d3,z2,hi2,hu3,hz2,rfl⟩:=qE hj;refine qFT h (v':=s') ?_ hs;have hx0:∃bx cx,x'=.slice bx 0 cx:=by
  simp only[qf]at hx;rcases hx with⟨⟨a0,rfl,_⟩,_⟩|⟨B2,off2,cap2,rfl,_⟩
  . exact⟨_,_,rfl⟩
  exact⟨_,_,rfl⟩
 obtain⟨bx,cx,rfl⟩:=hx0;have hf0:(Builtin.firstCells inf2.size 0 (.slice bx 0 cx)).run P w=.ok #[] w:=by
  cases bx<;>simp[Builtin.firstCells,loadCells,loadCellsFrom]
 simp only[qf]at hs;obtain⟨B,cap,hm,rfl,hcap,hpos,hbs⟩:=hs;simp[Builtin.append_,run_underlying hu,run_underlying hu2,sizeOf,typeInfo,hi2,Builtin.lenOf,hcap,hf0,storeCells]
def qlJ(h:WRel G w0 ro0 K U w){t:Nat}{x v:AV}{x':Value}(hx:qf K x x')(ty:Nat)(hf:qt5 (Dof P) t x=some v):∃v',(Builtin.cap_ #[t] ty #[x']).run P w=.ok v' w/\qf K v v':=by
 unfold qt5 at hf;split at hf
 case h_2=>cases hf
 rename_i i hD;obtain⟨inf,d,z,hi,hu,_,rfl⟩:=qE hD;simp only at hf;split at hf
 . rename_i e sz hd;have:=Q6 hd;subst this;cases hf;simp only[qf]at hx;rcases hx with⟨⟨a0,rfl,ha0⟩,_⟩|⟨B,off,cap,g1,g2,g3,g4⟩
   . obtain rfl:=ha0.resolve_right (by simp);exact⟨goInt 0,by simp[Builtin.cap_,run_underlying hu],by simp[qf,goInt]⟩
   simp[wz]at g4
 cases hf
def qj2(h:WRel G w0 ro0 K U w){sz m x x'}(hx:qf K x x'){src}(hf:qpP U sz m x=some src)(hm0:m≠0):
 ∃news,qi K src news/\src.all AV.atom=true/\(Builtin.firstCells sz m x').run P w=.ok news.toArray w/\src.length=m*sz:=by
 unfold qpP at hf;split at hf
 . rename_i s rows tok;split at hf
   case isFalse=>cases hf
   rename_i hc;obtain⟨rfl,hml⟩:=hc;simp only[qBu]at hf;subst hf;simp only[qf]at hx;rcases hx with⟨_,h2,_⟩|⟨B,off,cap,rfl,hcap,hrows,_⟩
   . subst h2;simp only[qB0,Nat.le_zero]at hml;exact absurd hml hm0
   have hs:=hrows.sub 0 m;simp only[qCY,qCB,qCq]at hs;obtain⟨vs,g1,g2,g3,g4,g5⟩:=wW h hs;have hl:(rows.take m).length=m:=(by simp;omega);rw[hl]at g2;exact⟨vs,g1,g4,run_firstCells_some w s m _ _ _ vs g2 g3,by rw[<- g2,g1.length]⟩
 . rename_i b off len s;split at hf
   case isFalse=>cases hf
   rename_i hc;obtain⟨rfl,hml⟩:=hc;split at hf
   . rename_i c hb;unfold cut at hf;split at hf
     . rename_i hl;simp only[qBu]at hf;subst hf;simp only[qf]at hx;obtain⟨B,cap,hm,rfl,hcap,hpos,hbs⟩:=hx;obtain⟨vs,l1,l2⟩:=qiK.of_blk h hb hm off (m*s) hl;obtain⟨B',g1,g2,g3,⟨cs,el,g4,g5,g6,g7⟩,g8⟩:=h.blk b _ hb;have hat:((c.drop off).take (m*s)).all AV.atom=true:=by
        rw[qBk]at g5⊢;exact fun x hx=>g5 x (qCJ (qBW hx))
       have hlen:((c.drop off).take (m*s)).length=m*s:=(by simp;omega);exact⟨vs,l1,hat,run_firstCells_some w s m _ _ _ vs (by have:=l1.length;omega) (fun j v e=>by rw[jx];exact l2 j v e),hlen⟩
     cases hf
   cases hf
 cases hf
def qgr{x x'}(hx:qf K x x'){n}(hf:qbG x=some n):∃b cap,x'=.slice b n cap:=by
 unfold qbG at hf;split at hf
 . rename_i sz rows tok;cases hf;simp only[qf]at hx;rcases hx with⟨⟨a0,rfl,_⟩,rfl,_⟩|⟨B,off,cap,rfl,_⟩
   . exact⟨_,_,rfl⟩
   exact⟨_,_,rfl⟩
 . cases hf;simp only[qf]at hx;obtain⟨B,cap,hm,rfl,_⟩:=hx;exact⟨_,_,rfl⟩
 cases hf
def qit(h:WRel G w0 ro0 K U w){t u:Nat}{d s v:AV}{d' s':Value}(hd:qf K d d')(hs:qf K s s')(ty:Nat){U':St}(hf:kE (Dof P) U t d s=some (v,U')):
 Ran P G w0 ro0 K w (Builtin.copy_ #[t,u] ty #[d',s']) v U':=by
 unfold kE at hf;split at hf
 case h_2=>cases hf
 rename_i i dl n hD hdl hn;obtain⟨inf,dd,z,hi,hu,_,rfl⟩:=qE hD;simp only at hf;split at hf
 case h_2=>cases hf
 rename_i e hde;have:=Q6 hde;subst this;split at hf
 case h_2=>cases hf
 rename_i j hj;obtain⟨inf2,d2,z2,hi2,hu2,hz2,rfl⟩:=qE hj;obtain⟨db,dcap,rfl⟩:=qgr hd hdl;obtain⟨sb,scap,rfl⟩:=qgr hs hn;split at hf
 . rename_i h0;simp only[qBu,qBs]at hf;obtain⟨rfl,rfl⟩:=hf;refine qFT h (v':=.int .i64 0) ?_ (by simp[qf]);have h0':Nat.min n dl=0:=h0;have hf0:(Builtin.firstCells inf2.size 0 (.slice sb n scap)).run P w=.ok #[] w:=by
    cases sb<;>simp[Builtin.firstCells,loadCells,loadCellsFrom]
   cases db<;>simp[Builtin.copy_,run_underlying hu,sizeOf,typeInfo,hi2,Builtin.lenOf,h0',hf0,storeCells,goInt]
 rename_i h0;split at hf
 case h_2=>cases hf
 rename_i b off len sz;simp only[qbG,qBu]at hdl;subst hdl;simp only at hf;split at hf
 case isFalse=>cases hf
 rename_i hsz;subst hsz;split at hf
 case h_2=>cases hf
 rename_i src c hsrc hb;split at hf
 case isFalse=>cases hf
 rename_i hroom;simp only[qBu,qBs]at hf;obtain⟨rfl,rfl⟩:=hf;obtain⟨news,n1,n2,n3,n4⟩:=qj2 (P:=P) h hs hsrc h0;simp only[qf]at hd;obtain⟨B,cap,hm,hdv,hcap,hpos,hbs⟩:=hd;cases hdv;obtain⟨B',g1,g2,g3,⟨cs,el,g4,g5,g6,g7⟩,g8⟩:=h.blk b _ hb;rw[hm]at g1;cases g1;have hbl:b<U.H.length:=(qBa.1 hb).1;have hcs:cs.size=K.bs b:=h.bsz b B cs el _ hm g4;have hnl:news.length=min n len*inf2.size:=by have:=n1.length;omega
 have hone:∀u∈news,u.oneCell'=true:=n1.oneCells n2;have hst:=run_storeCells_at P B off el news 0 cs w g4 (by simp only[qCB];rw[hnl];omega) hone;simp only[qCB]at hst;have hmin:Nat.min n len=min n len:=rfl;refine⟨.int .i64 (min n len:Nat),w.setRow B (cs.toList.take off++news++cs.toList.drop (off+news.length)).toArray,K,?_,qFQ K,
  h.setBlk (B:=B) (b':=.cells (zx c off src)) (w':=w.setRow B (cs.toList.take off++news++cs.toList.drop (off+news.length)).toArray) hbl hm rfl rfl rfl (by simp[World.setRow]) (fun k hk=>setRow_other w B k _ hk) ?_ (by rw[hb];simp)
   (fun cs2 el2 fr2 e2=>by
     rw[setRow_heap w B cs _ el _ g4]at e2;cases e2;rw[<- hcs];simp[hnl];omega) (fun _ _ _ _=>⟨cs,el,_,g4⟩),by simp[qf]⟩
 . simp[Builtin.copy_,run_underlying hu,sizeOf,typeInfo,hi2,Builtin.lenOf,hmin,n3,hst,goInt]
 refine⟨_,el,setRow_heap w B cs _ el _ g4,putAt_all _ _ _ g5 n2,by simp[Qg,hnl];omega,fun i a ea=>?_⟩;rw[wX _ _ _ _ (by rw[n4];omega)]at ea;simp only[qDs];split at ea
 . rename_i hin;obtain⟨v,e1,e2⟩:=n1.get _ _ ea;refine⟨v,?_,e2⟩;rw[qBQ,qBm (by simp;omega),qBq (by rw[hnl];simp;omega)];simp only[qBV,qCv];rw[show min off cs.size=off by omega];exact e1
 rename_i hin;obtain⟨v,e1,e2⟩:=g7 i a ea;refine⟨v,?_,e2⟩;by_cases hlo:i<off
 . rw[qBQ,qBq (by simp;omega),qCj,if_pos hlo];simpa using e1
 rw[qBQ,qBm (by simp;omega),qBm (by rw[hnl];simp;omega),qB8];simp only[qBV,qCv];rw[n4]at hin;rw[hnl,show off+min n len*inf2.size+(i-min off cs.size-min n len*inf2.size)=i by omega];simpa using e1
def qkq(hw:WRel G w0 ro0 K U w){t l c l' c'}(hl:qf K l l')(hc:qf K c c'){mu L}(hf:mkX (Dof P) mu U t l c=some L):
 ∃v U',(v,U')∈L/\Ran P G w0 ro0 K w (Instr.makeSlice t l' c') v U':=by
 unfold mkX at hf;split at hf
 case h_2=>cases hf
 rename_i k1 k2;split at hf
 case h_2=>cases hf
 rename_i sz tok U' hms;cases hf;refine⟨_,_,qBR.2 rfl,?_⟩;obtain⟨v',w',K',r1,r2,r3,r4⟩:=Qk (P:=P) hw hl hc hms;simp only[qf]at hl hc;subst hl hc;have hv:(∃b,v'=.slice b 0 0/\b.isSome=true)/\¬tok.plain:=by
  unfold qD at hms;split at hms
  case h_2=>cases hms
  rename_i i ln cn hD hln hcn;obtain⟨inf,d,z,hi,hu,_,rfl⟩:=qE hD;cases hln;cases hcn;simp only at hms;split at hms
  case h_2=>cases hms
  rename_i e hd;have hd':=Q6 hd;subst hd';split at hms
  case h_2=>cases hms
  rename_i j hj;obtain⟨inf2,d2,z2,hi2,hu2,hz2,rfl⟩:=qE hj;simp only[Instr.makeSlice,Sem.run_bind,run_underlying hu,Result.andThen_ok]at r1;have hwz:IntKind.i64.wrap 0=0:=by decide
  simp[asInt,asIntOf,typeInfo,hi2,hwz,askRoom,sizeOf,zeroValue,hz2,newRow,roomBytes]at r1;refine⟨⟨_,r1.1.symm,rfl⟩,?_⟩;split at hms
  . simp at hms;rw[<- hms.1.2];simp[Tok.plain]
  cases hms
 obtain⟨⟨b,rfl,hb⟩,htk⟩:=hv;refine⟨_,_,_,r1,r2,r3,?_⟩;obtain⟨a,rfl⟩:=qD4.1 hb;simp only[qf]at r4⊢;rcases r4 with⟨⟨a0,h1,ha0⟩,h2,h3⟩|⟨B,off,cap,h1,h2,h3,h4⟩
 . exact absurd h3 htk
 simp at h1;exact .inr ⟨B,off,0,by simp[h1],by simp,h3,by simp[wz]⟩
def Vu(hw:WRel G w0 ro0 K U w)(he:ERel K N env a){mu}(o){l}(h:qch (Dof P) G mu env U o.op=some l):
 ∃v U',(v,U')∈l/\Did P G w0 ro0 K w (execOp a.eval o) v U':=by
 have ex:=Jh hw he;obtain⟨dst,op,type,pos,after,guard⟩:=o;simp only at h;cases op<;>simp only[qch]at h<;>try(cases h;done)
 case makeSlice t x y=>
  obtain⟨v,U',h1,h2⟩:=qkq (P:=P) hw (ex x) (ex y) h;exact⟨v,U',h1,qFU h2⟩
 case binOp o t x y u=>
  cases o<;>simp only at h<;>try(cases h;done)
  . obtain⟨v,U',h1,rfl,h2⟩:=Yd (P:=P) hw (ex x) (ex y) h x y;exact⟨v,U',h1,qFV hw h2⟩
  obtain⟨v,U',h1,rfl,h2⟩:=Yd (P:=P) hw (ex x) (ex y) h x y;exact⟨v,U',h1,qFV hw h2⟩
 case call c=>
  obtain⟨callee,args,ts⟩:=c;cases callee<;>simp only at h<;>try(cases h;done)
  rename_i b;split at h
  . rename_i t u s x hts hargs;cases mu
    . cases h
    simp only at h;obtain⟨p,hp,rfl⟩:=qBj.1 h;obtain⟨v,U'⟩:=p;obtain⟨v',w',K',r1,r2,r3,r4⟩:=qbv hw (ex s) (ex x) type hp;have eargs:args.map a.eval = #[a.eval s,a.eval x]:=(by apply Array.ext';simp[hargs]);have ets:ts = #[t,u]:=(by apply Array.ext';simpa using hts);exact⟨v,U',qBR.2 rfl,v',w',K',.inl (by simp[execOp,resolve,invoke,builtin,eargs,ets,r1]),r2,r3,r4⟩
  . rename_i t x hts hargs;obtain⟨v,hp,rfl⟩:=qBj.1 h;obtain⟨v',r1,r2⟩:=qlJ hw (ex x) type hp;have eargs:args.map a.eval = #[a.eval x]:=(by apply Array.ext';simp[hargs]);have ets:ts = #[t]:=(by apply Array.ext';simpa using hts);exact⟨v,U,qBR.2 rfl,v',w,K,.inl (by simp[execOp,resolve,invoke,builtin,eargs,ets,r1]),qFQ K,hw,r2⟩
  . rename_i t u d s hts hargs;obtain⟨p,hp,rfl⟩:=qBj.1 h;obtain⟨v,U'⟩:=p;obtain⟨v',w',K',r1,r2,r3,r4⟩:=qit (u:=u) hw (ex d) (ex s) type hp;have eargs:args.map a.eval = #[a.eval d,a.eval s]:=(by apply Array.ext';simp[hargs]);have ets:ts = #[t,u]:=(by apply Array.ext';simpa using hts);exact⟨v,U',qBR.2 rfl,v',w',K',.inl (by simp[execOp,resolve,invoke,builtin,eargs,ets,r1]),r2,r3,r4⟩
  cases h
end
