import Derived.Test.YtdapogpjhljhaaaGreatDoorCs01
import Derived.Laws.AppendOwn
import Derived.Deep.AppendSrc
import Derived.Lib.AppendZerosOnto
set_option linter.all false
set_option linter.defProp false
namespace Go.Abs
open Go Go.RowKit
section
variable {P:Program}{G:Nat->AV}{w0:World}{ro0:Nat->Nat->Option Value}{K:Kn}{σ:St}{w w':World}
def YB(t ty e el)(i:TypeInfo)(y:P.underlying t=some (.slice e))(hi:P.info? e=some i)
 (g b f d) (o:w.heap[g]?=some (.cells d el (0,0)))
 (a:Addr) (m c news) (l:news.length=m*i.size) (v:∀(j) (u),news[j]?=some u->w.cell? (a.add j)=some u) (h1:∀u∈news,u.oneCell'=true)
 (x:b+m<=f) (r:b*i.size+news.length<=d.size):
 (Builtin.append_ #[t,t] ty #[.slice (some ⟨g,0,none⟩) b f,.slice (some a) m c]).run P w =
   .ok (.slice (some ⟨g,0,none⟩) (b+m) f) (w.setRow g (d.toList.take (b*i.size)++news++d.toList.drop (b*i.size+news.length)).toArray):=by
 have s:=run_firstCells_some (P:=P) w i.size m a m c news l v;have h:=run_storeCells_at P g (b*i.size) el news 0 d w o (by simpa using r) h1;simp at h;simp[Builtin.append_,run_underlying y,sizeOf,typeInfo,hi,Builtin.lenOf,x,s,Addr.add_lit,h]
def wU(h:WRel G w0 ro0 K σ w){B off sz rows}(c:qQ K B off sz rows):
 ∃ vs:List Value,qj K rows.flatten vs/\vs.length=rows.length*sz/\(∀(j) (v),vs[j]?=some v->w.cell? ((⟨B,off,none⟩:Addr).add j)=some v) /\
  rows.flatten.all AV.atom=true/\∀v∈vs,v.oneCell'=true:=by
 obtain⟨f1,d,b⟩:=qQ.flat B sz rows off c;obtain⟨vs,a,f⟩:=qF8 h.ro B _ off f1;exact⟨vs,a,by rw[a.length,d],fun j v e=>by rw[jz];exact f j v e,b,a.oneCells b⟩
def qaB{B off sz rows}(a:qQ K B off sz rows):∀r∈rows,r.length=sz:=by
 intro r b;obtain⟨i,hi⟩:=qB1 b;exact(qQ.get B sz rows off a i r hi).1
def qc8{B' sz k t n newCap:Nat}{rows vs K'}(z:qj K rows.flatten vs)(o:vs.length=rows.length*sz)(A:∀r∈rows,r.length=sz)(w:rows.flatten.all AV.atom=true)
 (h:K.le K') (l:∀(j) (v),vs[j]?=some v->K'.ro B' j=some v) (f:rows.length<=newCap) (y:t<K'.nch) (C) (g:K'.ch t=some C) (D:C.k=k) (x:C.B=B') (m:C.sz=sz)
 (u:C.fin=vs.length) (s:C.cap=newCap*sz):qi K' (.sl sz rows (.chain t k)) (.slice (some ⟨B',0,none⟩) rows.length newCap):=by
 simp only[qi];refine .inr ⟨B',0,newCap,rfl,f,Qh rows 0 A w (qF9 B' _ 0 fun i a e=>?_),?_⟩
 . obtain⟨v,c,d⟩:=z.get i a e;exact⟨v,by simpa using l i v c,d.mono h⟩
 refine⟨y,fun C' b=>?_⟩;rw[g]at b;cases b;exact⟨by omega,fun _=>⟨x,m,rfl,by rw[u,o],s.symm⟩⟩
def qdE(h:WRel G w0 ro0 K σ w){t:Nat}{s x v:AV}{s' x':Value}(F:qi K s s')(hx:qi K x x')(ty:Nat){σ':St}(m:qm (Dof P) σ t s x=some (v,σ')):
 Ran P G w0 ro0 K w (Builtin.append_ #[t,t] ty #[s',x']) v σ':=by
 unfold qm at m;split at m
 . rename_i i sz rows tok g2 f7 hD V;obtain⟨inf,d,z,hi,O,_,rfl⟩:=qH hD;simp only at m;split at m
   . rename_i e hd;have e6:=Zd hd;subst e6;split at m
     . rename_i j hj;obtain⟨c,d2,I,L,g6,a6,rfl⟩:=qH hj;simp only at m;split at m
       . rename_i hc;obtain⟨e3,f1,g9,d5,d0,f3⟩:=hc;cases x<;>simp only[qR]at V<;>try(cases V;done)
         rename_i f9 b g7;simp only[qBI,qBK]at V;obtain⟨rfl,rfl⟩:=V;split at m
         . -- nothing is appended
           rename_i hn;subst hn;simp only[qBI,qBK]at m;obtain⟨rfl,rfl⟩:=m;refine qF0 h (v':=s') ?_ F;have d8:∃bx cx,x'=.slice bx 0 cx:=by
            simp only[qi]at hx;rcases hx with⟨⟨J,rfl,_⟩,_⟩|⟨W,S,U,rfl,_⟩
            . exact⟨_,_,rfl⟩
            exact⟨_,_,rfl⟩
           obtain⟨bx,cx,rfl⟩:=d8;have c0:(Builtin.firstCells c.size 0 (.slice bx 0 cx)).run P w=.ok #[] w:=by
            cases bx<;>simp[Builtin.firstCells,loadCells,loadCellsFrom]
           simp only[qi]at F;rcases F with⟨⟨J,rfl,_⟩,rfl,_⟩|⟨B,off,cap,rfl,a4,_⟩
           . cases J<;>simp[storeCells,Builtin.append_,run_underlying O,sizeOf,typeInfo,L,Builtin.lenOf,c0]
           simp[Builtin.append_,run_underlying O,sizeOf,typeInfo,L,Builtin.lenOf,a4,c0,storeCells]
         rename_i hn;have b8:=qBA.2 hn;have e5:=f1.resolve_right hn;subst e5;simp only[qi]at hx;rcases hx with⟨_,rfl,_⟩|⟨W,S,U,rfl,f5,b2,_⟩
         . exact absurd rfl hn
         obtain⟨news,n1,E,n3,n4,n5⟩:=wU h b2;have f8:b.length*c.bytes<=140737488355328:=by
          calc b.length*c.bytes<=549755813888*256:=qDx (by omega) d0
           _<=140737488355328:=by omega
         have b9:(rows.length+b.length)*c.bytes<=140737488355328:=by
          calc (rows.length+b.length)*c.bytes<=549755813888*256:=qDx f3 d0
           _<=140737488355328:=by omega
         have c9:=qaB b2
         -- growth into a new block,from whatever is there
         have qeN:∀(g:List Value) (o k n:Nat) (T':List (Option Nat)),qj K rows.flatten g->g.length=rows.length*c.size->(∀r∈rows,r.length=c.size)->rows.flatten.all AV.atom=true ->
          (∀u k',T'[u]?=some (some k')->(u=o/\k'=k)\/(u≠o/\σ.T[u]?=some (some k')))->T'[o]?=some (some k)->(∀u C,u≠o->K.ch u=some C->∃k',T'[u]?=some (some k'))->n=T'.length->K.nch<=n->o<n ->
          (o<K.nch->∃C,K.ch o=some C/\C.k<k)->∀old:Nat,
          ∃ K',K.le K'/\WRel G w0 ro0 K' {σ with T:=T'} (w.drew.alloc (.cells (g.toArray++news.toArray++Builtin.zeroCells I.cells (grownCap w (rows.length+b.length) old e-(rows.length+b.length))) e)) /\
           qi K' (.sl c.size (rows++b) (.chain o k)) (.slice (some ⟨w.heap.size,0,none⟩) (rows.length+b.length) (grownCap w (rows.length+b.length) old e)):=by
          intro g o k n T' N A d7 oa hT e4 f2 f0 d9 f4 hk old;have a9:=grownCap_ge w (rows.length+b.length) old e;generalize g5:grownCap w (rows.length+b.length) old e=newCap at a9;have d3:(g.toArray++news.toArray++Builtin.zeroCells I.cells (newCap-(rows.length+b.length))).size=newCap*c.size:=by
           simp only[Array.size_append,qDW,size_zeroCells,show I.cells.size=c.size by simpa using d5,A,E,<- qCx];congr 1;omega
          have b5:(g++news).length=(rows++b).length*c.size:=(by simp[*,qCx]);obtain⟨w1,w2⟩:=h.drew.chainNew (g++news) (g.toArray++news.toArray++Builtin.zeroCells I.cells (newCap-(rows.length+b.length))) e
           (fun j v ev=>by
             have Y:=(qBk.1 ev).1;rw[qD4 (by simpa using Y),<- ev];simp) o k n T' hT e4 f2 f0 d9 hk c.size (by
              rw[d3,b5];simp only[qBp];exact qCz _ a9)
          refine⟨_,w2,w1,?_⟩;have:=qc8 (K:=K) (B':=w.heap.size) (sz:=c.size) (k:=k) (t:=o) (n:=n) (newCap:=newCap) (rows:=rows++b) (vs:=g++news)
           (by rw[qDi];exact N.append n1) b5 (fun r l=>by rcases qBC.1 l with l|l;exact d7 r l;exact c9 r l) (by rw[qDi,qCU,oa,n4];rfl)
           w2 (fun j v ev=>by
            have Y:=(qBk.1 ev).1;show(if w.drew.heap.size=w.drew.heap.size/\0<=j/\j<0+(g++news).length then(g++news)[j-0]? else K.ro w.heap.size j)=some v;rw[if_pos ⟨rfl,by omega,by omega⟩];exact ev) (by simpa using a9) f4 ⟨k,w.heap.size,(g++news).length,(g.toArray++news.toArray++Builtin.zeroCells I.cells (newCap-(rows.length+b.length))).size,c.size⟩ (if_pos rfl) rfl rfl rfl rfl d3
          simpa using this
         split at m
         . cases m
         . -- the nil slice
           cases m;simp only[qi]at F;rcases F with⟨⟨J,rfl,a3⟩,rfl,_⟩|⟨B,off,cap,rfl,a4,Q,X⟩
           . obtain rfl:=a3.resolve_right (by simp);obtain⟨K',k1,D,k3⟩:=qeN [] σ.T.length b.length (σ.T.length+1) (σ.T++[some b.length]) (by simp[qj]) (by simp) (by simp) (by simp)
              (fun u k' f=>by
                rw[qCn]at f;split at f
                . rename_i y;exact .inr ⟨by omega,f⟩
                rename_i y;have:u-σ.T.length=0:=by
                 rcases qCI (u-σ.T.length) with h0|h0
                 . exact h0
                 rw[qBW (by simp;omega)]at f;cases f
                rw[this]at f;simp at f;exact .inl ⟨by omega,f.symm⟩)
              (by simp) (fun u C y hC=>by obtain⟨k',M⟩:=h.chd u C hC;exact⟨k',by rw[qBv (qBk.1 M).1];exact M⟩) (by simp) (by rw[h.nch];omega) (by omega) (fun Z=>by rw[h.nch]at Z;omega) 0
             have l:=run_append_nil (P:=P) w t ty e c I O L a6 ⟨W,S,none⟩ b.length U news E n3 b8 (by omega) (by omega);simp only[qCc,qDb,qBL,Array.empty_append]at D k3;exact⟨_,_,K',l,k1,D,k3⟩
           simp only[wo]at X
         . -- no spare room
           cases m;have b4:∀u k',(σ.T++[some b.length])[u]?=some (some k')->(u=σ.T.length/\k'=b.length)\/(u≠σ.T.length/\σ.T[u]?=some (some k')):=fun u k' f=>by
            rw[qCn]at f;split at f
            . rename_i y;exact .inr ⟨by omega,f⟩
            rename_i y;have:u-σ.T.length=0:=by
             rcases qCI (u-σ.T.length) with h0|h0
             . exact h0
             rw[qBW (by simp;omega)]at f;cases f
            rw[this]at f;simp at f;exact .inl ⟨by omega,f.symm⟩
           have d1:∀u C,u≠σ.T.length->K.ch u=some C->∃k',(σ.T++[some b.length])[u]?=some (some k'):=fun u C y hC=>by
            obtain⟨k',M⟩:=h.chd u C hC;exact⟨k',by rw[qBv (qBk.1 M).1];exact M⟩
           simp only[qi]at F;rcases F with⟨⟨J,rfl,a3⟩,rfl,_⟩|⟨B,off,cap,rfl,a4,Q,X⟩
           . obtain rfl:=a3.resolve_right (by simp);obtain⟨K',k1,D,k3⟩:=qeN [] σ.T.length b.length (σ.T.length+1) (σ.T++[some b.length]) (by simp[qj]) (by simp) (by simp) (by simp) b4
              (by simp) d1 (by simp) (by rw[h.nch];omega) (by omega) (fun Z=>by rw[h.nch]at Z;omega) 0
             have l:=run_append_nil (P:=P) w t ty e c I O L a6 ⟨W,S,none⟩ b.length U news E n3 b8 (by omega) (by omega);simp only[qCc,qDb,qBL,Array.empty_append]at D k3;exact⟨_,_,K',l,k1,D,k3⟩
           simp only[wo]at X;subst X;have a7:=qaB Q;obtain⟨g,N,A,o3,o4,o5⟩:=wU h Q;have a5:=e3;have b7:g.length=rows.length*c.size:=by
            rcases a5 with rfl|b0
            . exact A
            subst b0;simpa using A
           have e7:∀r∈rows,r.length=c.size:=by
            rcases a5 with rfl|b0
            . exact a7
            subst b0;simp
           obtain⟨K',k1,D,k3⟩:=qeN g σ.T.length b.length (σ.T.length+1) (σ.T++[some b.length]) N b7 e7 o4 b4
            (by simp) d1 (by simp) (by rw[h.nch];omega) (by omega) (fun Z=>by rw[h.nch]at Z;omega) rows.length
           have l:=run_append_grow (P:=P) w t ty e c I O L a6 ⟨B,off,none⟩ rows.length rows.length g b7 o3 ⟨W,S,none⟩ b.length U news E n3 (by omega) (by omega) (growslice_fits (by omega) b9);exact⟨_,_,K',l,k1,D,k3⟩
         -- a row with a free end
         rename_i ct R;split at m
         . rename_i a2;obtain⟨a5,a2⟩:=a2;subst a5;cases m;simp only[qi]at F;rcases F with⟨_,_,e8⟩|⟨B,off,cap,rfl,a4,Q,X⟩
           . exact e8.elim
           obtain⟨g3,d6⟩:=X;obtain⟨C,c1,c2,c3,c4,⟨cs,el,c5,c6⟩,c7,c8⟩:=h.ch ct R a2;obtain⟨_,t2⟩:=d6 C c1;obtain⟨t3,t4,t5,t6,t7⟩:=t2 c2.symm;have a8:=(qBk.1 a2).1;subst t5;have a7:=qaB Q;obtain⟨g,N,A,o3,o4,o5⟩:=wU h Q;by_cases b1:rows.length+b.length<=cap
           . have hB:=t3;subst hB;have g1:rows.length*c.size+b.length*c.size<=cap*c.size:=(by rw[<- qCx];exact qCz _ b1);have l:=YB (P:=P) (w:=w) t ty e el c O L C.B rows.length cap cs c5 ⟨W,S,none⟩ b.length U news E n3 n5 b1 (by rw[E,c6];omega);have g8:cs.toList.length=C.cap:=(by simpa using c6);have a1:min (rows.length*c.size) cs.toList.length=rows.length*c.size:=(by omega);obtain⟨w1,w2⟩:=h.chainIn c1 (by rw[a2]) news (cs.toList.take (rows.length*c.size)++news++cs.toList.drop (rows.length*c.size+news.length)).toArray el (R+b.length) (by omega)
              (w':=w.setRow C.B (cs.toList.take (rows.length*c.size)++news++cs.toList.drop (rows.length*c.size+news.length)).toArray) rfl rfl rfl (by simp[World.setRow]) (fun j hj=>setRow_other w C.B j _ hj)
              (setRow_heap w C.B cs _ el _ c5) (by simp only[qDW,qBp,qBY,qCj,a1,E];omega) (by rw[E];omega)
              (fun j v ev=>by
                have Y:=(qBk.1 ev).1;rw[qDC,qBX,qBt (by simp only[qBY,a1];omega),qBv (by simp only[qBY,a1];omega)];simp only[qBY,a1,<- t6];rw[show rows.length*c.size+j-rows.length*c.size=j by omega];exact ev)
              (fun g4 g0 e2 j hj=>by
                rw[c5]at e2;cases e2;rw[qDC,qBX,qBv (by simp only[qBY,a1];omega),qCi,if_pos (by omega)];simp)
             refine⟨_,_,_,l,w2,w1,?_⟩;have V:∀(j:Nat) (u:Value),(g++news)[j]?=some u->((K.addRo C.B C.fin news).setCh ct ⟨R+b.length,C.B,C.fin+news.length,C.cap,C.sz⟩ K.nch).ro C.B j=some u:=by
              intro j u f;show(if C.B=C.B/\C.fin<=j/\j<C.fin+news.length then news[j-C.fin]? else K.ro C.B j)=some u;rw[qCn]at f;split at f
              . rename_i Y;rw[if_neg (by omega)];have e9:=qQ.flat C.B c.size rows 0 Q;obtain⟨J,a3⟩:∃J,rows.flatten[j]?=some J:=⟨_,qBm (by rwa[<- N.length])⟩;obtain⟨v0,e0,_⟩:=qq.get C.B _ 0 e9.1 j J a3;have b6:=h.ro _ _ _ e0;have d4:=o3 j u f;rw[jz]at d4;rw[d4]at b6;rw[b6];simpa using e0
              rename_i Y;have f6:=(qBk.1 f).1
              rwa[if_pos ⟨rfl,by omega,by omega⟩,<- t6,<- A]
             have:=qc8 (K:=K) (B':=C.B) (sz:=c.size) (k:=R+b.length) (t:=ct) (n:=0) (newCap:=cap) (rows:=rows++b) (vs:=g++news)
              (by rw[qDi];exact N.append n1) (by simp[*,qCx]) (fun r l=>by rcases qBC.1 l with l|l;exact a7 r l;exact c9 r l) (by rw[qDi,qCU,o4,n4];rfl)
              w2 V (by simpa using b1) (by show ct<K.nch;rwa[h.nch]) ⟨R+b.length,C.B,C.fin+news.length,C.cap,C.sz⟩ (if_pos rfl) rfl rfl t4
              (by simp only[qBp,A,t6]) (by simp only[<- t7])
             simpa using this
           obtain⟨K',k1,D,k3⟩:=qeN g ct (R+b.length) σ.T.length (σ.T.set ct (some (R+b.length))) N A a7 o4
            (fun u k' f=>by
              by_cases y:u=ct
              . subst y;simp[a8]at f;exact .inl ⟨rfl,f.symm⟩
              rw[qBn (Ne.symm y)]at f;exact .inr ⟨y,f⟩)
            (by simp[a8]) (fun u C' y e1=>by obtain⟨k',M⟩:=h.chd u C' e1;exact⟨k',by rw[qBn (Ne.symm y)];exact M⟩) (by simp) (by rw[h.nch];omega) a8
            (fun _=>⟨C,c1,by omega⟩) cap
           have l:=run_append_grow (P:=P) w t ty e c I O L a6 ⟨B,0,none⟩ rows.length cap g A o3 ⟨W,S,none⟩ b.length U news E n3 (by omega) (by omega) (growslice_fits (by omega) b9);exact⟨_,_,K',l,k1,D,k3⟩
         cases m
       cases m
     cases m
   cases m
 cases m
end
section
variable {P:Program}{G:Nat->AV}{w0:World}{ro0:Nat->Nat->Option Value}{K:Kn}{σ:St}{w w':World}
def Vb{n}(h0:0<=n)(h1:n<=549755813888):IntKind.i64.wrap n=n:=by
 have:n%18446744073709551616=n:=Int.emod_eq_of_lt h0 (by omega);simp only[IntKind.wrap,IntKind.bits,IntKind.signed,qCC];simp only[show((2:Int)^(64:Nat))=18446744073709551616 from rfl,show((2:Int)^((64:Nat)-1))=9223372036854775808 from rfl,this];rw[if_neg (by simp;omega)]
def qwx{T:List (Option Nat)}{n:Nat}(u k':Nat)(a:(T++[some n])[u]?=some (some k')):(u=T.length/\k'=n)\/(u≠T.length/\T[u]?=some (some k')):=by
 rw[qCn]at a;split at a
 . rename_i b;exact .inr ⟨by omega,a⟩
 rename_i b;have:u-T.length=0:=by
  rcases qCI (u-T.length) with h0|h0
  . exact h0
  rw[qBW (by simp;omega)]at a;cases a
 rw[this]at a;simp at a;exact .inl ⟨by omega,a.symm⟩
def Qq(h:WRel G w0 ro0 K σ w){t l c v M F}(hl:qi K l M)(hc:qi K c F){σ'}(f:qz (Dof P) σ t l c=some (v,σ')):
 Ran P G w0 ro0 K w (Instr.makeSlice t M F) v σ':=by
 unfold qz at f;split at f
 . rename_i i m cn hD a1 a3;obtain⟨inf,d,z,hi,hu,_,rfl⟩:=qH hD;obtain⟨k1,rfl⟩:=yI a1 hl;obtain⟨k2,rfl⟩:=yI a3 hc;simp only at f;split at f
   . rename_i e hd;have a7:=Zd hd;subst a7;split at f
     . rename_i j hj;obtain⟨b,d2,g,B,b8,V,rfl⟩:=qH hj;simp only at f;split at f
       . rename_i a4;obtain⟨b1,b2,b3,b4,b5,b6,U⟩:=a4;have o:g.cells.size=b.size:=(by simpa using b6);have W:=Vb b1 (by omega);have S:=Vb (by omega) b3;have a5:cn.toNat*b.bytes<=140737488355328:=by
          calc cn.toNat*b.bytes<=549755813888*256:=qDx (by omega) b4
           _<=140737488355328:=by omega
         have b0:(b.bytes:Int)*cn<=140737488355328:=by
          have:=Int.ofNat_le.2 a5
          rwa[Int.natCast_mul,Int.toNat_of_nonneg (by omega),Int.mul_comm]at this
         have I:¬(281474976710656<(b.bytes:Int)*cn):=(by omega);have a2:∀n:Nat,n*b.size=0↔n=0:=by
          intro n;rw[Nat.mul_eq_zero];omega
         have s:(Instr.makeSlice t (.int k1 m) (.int k2 cn)).run P w=.ok (.slice (some ⟨w.heap.size,0,none⟩) m.toNat cn.toNat)
          (w.alloc (.cells ((Array.range (cn.toNat*b.size)).map (fun j=>(if cn.toNat*b.size=0 then #[] else g.cells)[j%(if cn.toNat*b.size=0 then #[] else g.cells).size]!)) e)):=by
          simp only[Instr.makeSlice,Sem.run_bind,run_underlying hu,Result.andThen_ok];have R:¬(cn<0):=(by omega);have A:¬(m<0):=(by omega);have J:¬(m > cn):=(by omega);by_cases Q:cn.toNat*b.size=0
          . simp[asInt,asIntOf,typeInfo,B,W,S,I,R,A,J,askRoom,sizeOf,zeroValue,V,newRow,Q]
          simp[asInt,asIntOf,typeInfo,B,W,S,I,R,A,J,askRoom,sizeOf,zeroValue,V,newRow,Q]
         split at f
         . rename_i N;subst N;cases f;obtain⟨w1,w2⟩:=h.chainNew [] ((Array.range (cn.toNat*b.size)).map (fun j=>(if cn.toNat*b.size=0 then #[] else g.cells)[j%(if cn.toNat*b.size=0 then #[] else g.cells).size]!)) e (by simp)
            σ.T.length 0 (σ.T.length+1) (σ.T++[some 0]) qwx (by simp)
            (fun u C b9 r=>by obtain⟨k',D⟩:=h.chd u C r;exact⟨k',by rw[qBv (qBk.1 D).1];exact D⟩) (by simp) (by rw[h.nch];omega)
            (fun a0=>by rw[h.nch]at a0;omega) b.size (by simp)
           refine⟨_,_,_,s,w2,w1,?_⟩;simp;refine .inr ⟨w.heap.size,0,cn.toNat,rfl,by simp,by simp[qQ],?_⟩;refine⟨by show σ.T.length<σ.T.length+1;omega,fun C r=>?_⟩;have:C=⟨0,w.heap.size,0,cn.toNat*b.size,b.size⟩:=by
            simp[Kn.setCh]at r;exact r.symm
           subst this;exact⟨qBs _,fun _=>⟨rfl,by simp⟩⟩
         rename_i N;cases f;have Z:¬cn.toNat*b.size=0:=(by rw[a2];omega);rw[if_neg Z]at s;have O:=Kd (K:=K) (z:=g) (n:=cn.toNat) (by omega);rw[o]at O;refine⟨_,_,K.addM σ.H.length w.heap.size (yc _),s,qFT h _ _,h.push ?_,?_⟩
         . refine⟨_,e,rfl,?_,?_,?_⟩
           . rw[qBx];intro x Y;obtain⟨l,a6,E⟩:=qB3.1 Y;rw[(qDc.1 a6).2]at E;rw[qBx]at U;exact U x E
           . have:m.toNat*b.size<=cn.toNat*b.size:=qCz _ (by omega);simp[o];exact this
           . intro j a y;have a8:j<m.toNat*b.size:=by
              have:=(qBk.1 y).1;simpa[o] using this
             have a9:m.toNat*b.size<=cn.toNat*b.size:=qCz _ (by omega);have L:(g.cells.toList.map ofAtom).length=b.size:=(by simp[o]);rw[jT _ _ _ (by rwa[L])]at y;have X:((List.replicate cn.toNat (g.cells.toList.map ofAtom)).flatten)[j]?=some a:=by
              rw[jT _ _ _ (by rw[L];omega)];exact y
             obtain⟨v,e3,e4⟩:=O.get j a X;refine⟨v,?_,e4⟩
             rwa[<- Array.getElem?_toList,o]
         simp only[qi];exact⟨w.heap.size,cn.toNat,by simp[Kn.addM],rfl,by omega,by omega,by simp[Kn.addM,yc,o]⟩
       cases f
     cases f
   cases f
 cases f
def qa2(h:WRel G w0 ro0 K σ w)(t:Nat):Ran P G w0 ro0 K w (Instr.makeMap t none) (.map σ.H.length) (σ.push (.map [] 0)):=by
 refine⟨.map (some w.heap.size),w.alloc (.map #[] 0),K.addM σ.H.length w.heap.size (yc _),?_,qFT h _ _,h.push ?_,?_⟩
 . simp[Instr.makeMap]
 . exact⟨#[],by simp⟩
 simp only[qi];exact⟨w.heap.size,by simp[Kn.addM],rfl⟩
def Jd{k v}(h:zI (Dof P) k v=true):(∃e b n,P.underlying k=some (.int e)/\v=.int b n)\/(∃s,P.underlying k=some .string/\v=.str s)\/∃c a,v=.agg c/\Ww (Dof P) k=some a/\z9 a c=true:=by
 unfold zI at h;split at h
 . rename_i i g;obtain⟨inf,d,z,hi,f,_,rfl⟩:=qH g;simp only at h;split at h
   . rename_i e b n hd;exact .inl ⟨e,b,n,by rw[f,Yc hd],rfl⟩
   . rename_i s hd;exact .inr (.inl ⟨s,by rw[f,Qd hd],rfl⟩)
   . rename_i c hd;obtain⟨a,h1,h2⟩:=(Option.any_eq_true _ _).1 h;exact .inr (.inr ⟨c,a,rfl,h1,h2⟩)
   cases h
 cases h
def QB {b m cs K} : ∀ (fs : List Field) (k : Nat) (as), (∀ f ∈ fs, kz (Dof P) f.type = true ∧ f.name ≠ "_") → fs.map (·.offset) = List.range' k fs.length → as.length = fs.length → qj K as (cs.toList.drop k) →
 (forIn fs PUnit.unit (fun f (_:PUnit)=>
   if f.name ≠ "_" then do
    let x <- part f.type cs f.offset
    Instr.checkKey b (m+1) f.type x
    pure (ForInStep.yield PUnit.unit)
   else pure (ForInStep.yield PUnit.unit)):Sem PUnit).run P w=.ok PUnit.unit w
 |[],k,as,_,_,_,_=>by simp[pure]
 |f::fs,k,[],_,_,hl,_=>by simp at hl
 | f::fs,k,a::as,hf,ho,hl,hr=>by
  simp only[qBz,qBB,qC0,qDR]at ho;obtain⟨ho1,ho2⟩:=ho;simp only[qj]at hr;obtain⟨v,vr,e1,hv,hvr⟩:=hr;have hx:cs[k]?=some v:=by
   have:=qCm (xs:=cs.toList) (i:=k) (j:=0);rw[e1]at this;simpa using this.symm
  have hd:cs.toList.drop (k+1)=vr:=by
   rw[<- qDZ,e1];rfl
  obtain⟨hp,hnm⟩:=hf f (by simp);obtain⟨inf,hi,hu⟩:=vu hp;have hagg:(isAgg f.type).run P w=.ok false w:=by
   rcases hu with hu|hu|⟨k,hu⟩<;>simp[isAgg,run_underlying hu]
  have ih:=QB (b:=b) (m:=m) (cs:=cs) (K:=K) fs (k+1) as (fun x hx=>hf x (by simp[hx])) ho2 (by simpa using hl) (hd▸hvr);have hck:(Instr.checkKey b (m+1) f.type v).run P w=.ok () w:=by
   rw[Instr.checkKey];rcases hu with hu|hu|⟨k,hu⟩<;>simp[run_underlying hu]
  have hpt:(part f.type cs k).run P w=.ok v w:=by simp[part,hagg,hx]
  rw[List.forIn_cons];simp only[ne_eq,hnm,not_false_eq_true,if_true,Sem.run_bind,ho1,hpt,Result.andThen_ok,hck];exact ih
def Yu{k v v'}(h:zI (Dof P) k v=true)(a:qi K v v')(b):(Instr.checkKey b 10000 k v').run P w=.ok () w:=by
 have e:Instr.checkKey b 10000 k v'=Instr.checkKey b (9998+1+1) k v':=rfl;rw[e,Instr.checkKey];generalize 9998=m;rcases Jd h with⟨x,r,n,d,rfl⟩|⟨s,d,rfl⟩|⟨c,y,rfl,o,f⟩
 . simp only[qi]at a;subst a;simp[run_underlying d]
 . simp only[qi]at a;subst a;simp[run_underlying d]
 simp only[qi]at a;obtain⟨cs,rfl,i⟩:=a;obtain⟨fields,d,u,rfl,j,g⟩:=JT o;obtain⟨l,t⟩:=wG _ _ f;have:=QB (P:=P) (w:=w) (b:=b) (m:=m) (cs:=cs) (K:=K) fields.toList 0 c j (by rw[g,qCF];simp) (by simpa using l) (by simpa using i);simp only[Sem.run_bind,run_underlying d,Result.andThen_ok];rw[<- Array.forIn_toList,this];rfl
def qed(a b:List UInt8):((⟨a.toArray⟩:ByteArray) == ⟨b.toArray⟩)=(a==b):=by
 rw[beq_toListBytes,y9,y9]
def ZE{k:Nat}{x:AV}{x':Value}(u:(∃o t n,P.underlying k=some (.int o)/\x=.int t n)\/∃s,P.underlying k=some .string/\x=.str s)(l:qi K x x'):∀(es:List (AV×AV×Nat)) (g:List MapEntry) (i:Nat) (r:Option (Nat×AV)),g.length=es.length ->
 (∀(j:Nat) (k v:AV) (b:Nat),es[j]?=some (k,v,b)->∃e:MapEntry,g[j]?=some e/\qi K k e.key/\qi K v e.val/\e.born=b)->jQ x es i=some r ->
 ∃ d r',P.underlying k=some d/\Instr.findNow d x' g i=some r'/\(match r with
  |some (j,v)=>∃v',r'=some (j,v')/\qi K v v'/\i<=j/\∃e:MapEntry,g[j-i]?=some e/\Instr.sameBits 10000 e.key x'=true
  |none=>r'=none)
 | [],[],i,r,_,_,f=>by
  simp[jQ]at f;subst f;rcases u with⟨o,t,n,c,rfl⟩|⟨s,c,rfl⟩
  . exact⟨_,none,c,rfl,rfl⟩
  exact⟨_,none,c,rfl,rfl⟩
 |[],_::_,i,r,m,_,f=>by simp at m
 |_::_,[],i,r,m,_,f=>by simp at m
 | (k1,v1,b1)::es,h::g,i,r,m,A,f=>by
  obtain⟨R,h1,h2,E,Q⟩:=A 0 k1 v1 b1 (by simp);simp at h1;subst h1;have ih:=ZE u l es g (i+1);simp only[jQ]at f;have same:∀p,Zg x k1=some p->∀d,P.underlying k=some d->Instr.sameNow d x' h.key=some p/\(p=true->Instr.sameBits 10000 h.key x'=true):=by
   intro p a d hd;rcases u with⟨o,t,n,c,rfl⟩|⟨s,c,rfl⟩
   . rw[c]at hd;cases hd;cases k1<;>simp only[Zg]at a<;>try(cases a;done)
     split at a
     . rename_i F;subst F;simp only[qBI]at a;simp only[qi]at l h2;rw[l,h2];refine⟨by simp[Instr.sameNow,a],fun z=>?_⟩;rw[z]at a;have:n=_:=eq_of_beq a;simp[Instr.sameBits,this]
     cases a
   rw[c]at hd;cases hd;cases k1<;>simp only[Zg]at a<;>try(cases a;done)
   simp only[qBI]at a;simp only[qi]at l h2;rw[l,h2];refine⟨by simp[Instr.sameNow,qed,a],fun z=>?_⟩;rw[z]at a;have:s=_:=eq_of_beq a;simp[Instr.sameBits,qed,this]
  split at f
  . rename_i w;simp only[qBI]at f;subst f;rcases u with⟨o,t,n,c,_⟩|⟨s,c,_⟩
    all_goals
     obtain⟨y,D⟩:=same true w _ c;refine⟨_,some (i,h.val),c,by simp only[Instr.findNow,y],h.val,rfl,E,qBs _,h,by simp,D rfl⟩
  . rename_i w;obtain⟨d,r',B,J,C⟩:=ih r (by simpa using m) (fun j k v b e=>by simpa using A (j+1) k v b (by simpa using e)) f;obtain⟨y,_⟩:=same false w d B;refine⟨d,r',B,by simp only[Instr.findNow,y];exact J,?_⟩
    cases r with
    |none=>exact C
    | some G=>
     obtain⟨j,v⟩:=G;obtain⟨v',I,M,O,e,N,L⟩:=C;refine⟨v',I,M,by omega,e,?_,L⟩;rw[show j-i=(j-(i+1))+1 by omega];simpa using N
  cases f
def Yv:∀{a b:List AV},jk a b=some true->a=b
 |[],[],_=>rfl
 |[],_::_,h=>by simp[jk]at h
 |_::_,[],h=>by simp[jk]at h
 | x::a,y::b,h=>by
  simp only[jk]at h;split at h
  . rename_i p q c d;simp only[qBI,qBq]at h;rw[h.1]at c;rw[h.2]at d;rw[Yv d];cases x<;>cases y<;>simp only[wc]at c<;>first|(cases c;done)|skip
    . simp at c;rw[c]
    . split at c
      . rename_i e;subst e;simp at c;rw[c]
      . cases c
    simp at c;rw[c]
  cases h
def Zm{m}:∀{f:List TD}{a:List AV}{x y:List Value},z9 f a=true->qj K a x->qj K a y->x.length=y.length/\((x.zip y).all fun(u,v)=>Instr.sameBits m u v)=true
 |[],[],_,_,_,b,d=>by simp only[qj]at b d;subst b d;simp
 |[],_::_,_,_,h,_,_=>by simp[z9]at h
 |e::_,[],_,_,h,_,_=>by cases e<;>simp[z9]at h
 | e::f,c::a,x,y,h,b,d=>by
  simp only[qj]at b d;obtain⟨u,x',rfl,g,b⟩:=b;obtain⟨v,y',rfl,i,d⟩:=d;have h2:z9 f a=true/\Instr.sameBits m u v=true:=by
   cases e<;>cases c<;>simp[z9]at h<;>simp only[qi]at g i<;>subst g i<;>exact⟨h,by simp[Instr.sameBits,qed]⟩
  obtain⟨j,l⟩:=Zm (m:=m) h2.1 b d;exact⟨by simp[j],by simp only[qEI,qCH,h2.2,qCC];exact l⟩
def Wy{k c B x'}(G:Ww (Dof P) k=some B)(y:z9 B c=true)(s:qi K (.agg c) x'):∀(es:List (AV×AV×Nat)) (g:List MapEntry) (i) (r),g.length=es.length ->
 (∀(j:Nat) (k v:AV) (b:Nat),es[j]?=some (k,v,b)->∃e:MapEntry,g[j]?=some e/\qi K k e.key/\qi K v e.val/\e.born=b)->jQ (.agg c) es i=some r ->
 ∃ r',(Instr.findAsking k x' g i).run P w=.ok r' w/\(match r with
  |some (j,v)=>∃v',r'=some (j,v')/\qi K v v'/\i<=j/\∃e:MapEntry,g[j-i]?=some e/\Instr.sameBits 10000 e.key x'=true
  |none=>r'=none)
 | [],[],i,r,_,_,f=>by
  simp[jQ]at f;subst f;exact⟨none,rfl,rfl⟩
 |[],_::_,i,r,l,_,f=>by simp at l
 |_::_,[],i,r,l,_,f=>by simp at l
 | (k1,v1,b1)::es,h::g,i,r,l,A,f=>by
  obtain⟨W,h1,h2,J,V⟩:=A 0 k1 v1 b1 (by simp);simp at h1;subst h1;have ih:=Wy G y s es g (i+1);simp only[jQ]at f;have same:∀p,Zg (.agg c) k1=some p->(Op.equal k x' h.key).run P w=.ok p w/\(p=true->Instr.sameBits 10000 h.key x'=true):=by
   intro p o;cases k1<;>simp only[Zg]at o<;>try(cases o;done)
   rename_i d;simp only[qi]at s h2;obtain⟨xs,rfl,D⟩:=s;obtain⟨O,Q,F⟩:=h2;rw[Q];refine⟨?_,fun T=>?_⟩
   . refine(WE (t:=k) (a:=c) (b:=d) ?_ D F).2;simp only[qbh,G,if_pos y,o]
   subst T;have:=Yv o;subst this;obtain⟨C,u⟩:=Zm (m:=9999) y F D;show(O.size==xs.size&&_)=true;simp only[qCW]at C;rw[C,beq_self_eq_true,qCC];exact u
  split at f
  . rename_i x;simp only[qBI]at f;subst f;obtain⟨z,I⟩:=same true x;exact⟨some (i,h.val),by simp[Instr.findAsking,z],h.val,rfl,J,qBs _,h,by simp,I rfl⟩
  . rename_i x;obtain⟨r',u,E⟩:=ih r (by simpa using l) (fun j k v b e=>by simpa using A (j+1) k v b (by simpa using e)) f;obtain⟨z,_⟩:=same false x;refine⟨r',by simp[Instr.findAsking,z];exact u,?_⟩
    cases r with
    |none=>exact E
    | some L=>
     obtain⟨j,v⟩:=L;obtain⟨v',M,R,U,e,S,N⟩:=E;refine⟨v',M,R,by omega,e,?_,N⟩;rw[show j-i=(j-(i+1))+1 by omega];simpa using S
  cases f
def vB{k:Nat}{x:AV}{x':Value}(D:zI (Dof P) k x=true)(g:qi K x x')(es:List (AV×AV×Nat))(a:List MapEntry)(r:Option (Nat×AV))(y:a.length=es.length)
 (t:∀(j:Nat) (k v:AV) (b:Nat),es[j]?=some (k,v,b)->∃e:MapEntry,a[j]?=some e/\qi K k e.key/\qi K v e.val/\e.born=b) (z:jQ x es 0=some r):
 ∃ r',(Instr.findKey k x' a).run P w=.ok r' w/\(match r with
  |some (j,v)=>∃v',r'=some (j,v')/\qi K v v'/\∃e:MapEntry,a[j]?=some e/\Instr.sameBits 10000 e.key x'=true
  |none=>r'=none):=by
 rcases Jd D with h|h|⟨c,F,rfl,B,E⟩
 . obtain⟨d,r',u,l,f⟩:=ZE (.inl h) g es a 0 r y t z;refine⟨r',by simp only[Instr.findKey,Sem.run_bind,run_underlying u,Result.andThen_ok,l];rfl,?_⟩
   cases r with
   |none=>exact f
   |some A=>obtain⟨v',i,o,_,e,s,m⟩:=f;exact⟨v',i,o,e,by simpa using s,m⟩
 . obtain⟨d,r',u,l,f⟩:=ZE (.inr h) g es a 0 r y t z;refine⟨r',by simp only[Instr.findKey,Sem.run_bind,run_underlying u,Result.andThen_ok,l];rfl,?_⟩
   cases r with
   |none=>exact f
   |some A=>obtain⟨v',i,o,_,e,s,m⟩:=f;exact⟨v',i,o,e,by simpa using s,m⟩
 obtain⟨r',l,f⟩:=Wy (w:=w) B E g es a 0 r y t z;obtain⟨fields,C,_⟩:=JT B;refine⟨r',?_,?_⟩
 . simp only[Instr.findKey,Sem.run_bind,run_underlying C,Result.andThen_ok]
   cases a with
   |nil=>simpa[Instr.findNow,Instr.findAsking] using l
   | cons e a=>
    have:Instr.findNow (.struct fields) x' (e::a) 0=none:=by
     simp only[qi]at g;obtain⟨xs,rfl,_⟩:=g;simp[Instr.findNow,Instr.sameNow]
    rwa[this]
 cases r with
 |none=>exact f
 |some A=>obtain⟨v',i,o,_,e,s,m⟩:=f;exact⟨v',i,o,e,by simpa using s,m⟩
def qcP(h:WRel G w0 ro0 K σ w){t m k v r k'}(x:qi K m r)(C:qi K k k'){ok}(a:zF (Dof P) σ t m k ok=some v):
 ∃v',(Instr.lookup t r k' ok).run P w=.ok v' w/\qi K v v':=by
 unfold zF at a;split at a
 . rename_i i T;obtain⟨inf,d,z,hi,s,_,rfl⟩:=qH T;simp only at a;split at a
   . rename_i kt et hd;have:=qb4 hd;subst this;split at a
     . rename_i y;split at a
       . rename_i es g
         -- the entries,as they lie
         have R:∃c:Array MapEntry,((r=.map none/\c = #[])\/∃B clock,r=.map (some B)/\(getObj B).run P w=.ok (.map c clock) w)/\c.toList.length=es.length /\
          ∀(j:Nat) (k v:AV) (b:Nat),es[j]?=some (k,v,b)->∃e:MapEntry,c.toList[j]?=some e/\qi K k e.key/\qi K v e.val/\e.born=b:=by
          split at g
          . cases g;simp only[qi]at x;subst x;exact⟨#[],.inl ⟨rfl,rfl⟩,by simp⟩
          . rename_i b;split at g
            . rename_i V clock hb;cases g;simp only[qi]at x;obtain⟨B,S,rfl⟩:=x;obtain⟨B',h1,_,_,⟨c,O,J,M⟩,_⟩:=h.blk b _ hb;rw[S]at h1;cases h1;exact⟨c,.inr ⟨B,clock,rfl,by simp[getObj,Sem.run,O]⟩,by simpa using J,fun j k v b e=>by simpa using M j k v b e⟩
            cases g
          cases g
         obtain⟨c,f,E,F⟩:=R;have u:=fun b=>Yu (P:=P) (w:=w) y C b
         split at a
         . rename_i W Z A;cases a;obtain⟨r',l,v',rfl,Q,_⟩:=vB (w:=w) y C es c.toList _ E F A;refine⟨if ok then .tuple #[v',.bool true] else v',?_,by split<;>simp[qi,qj,Q]⟩;rcases f with⟨rfl,rfl⟩|⟨B,clock,rfl,f⟩
           . simp only[Instr.lookup,Sem.run_bind,run_underlying s,Result.andThen_ok];simp only[pure,Sem.run,Result.andThen_ok,u,l,Sem.run_bind]
           simp only[Instr.lookup,Sem.run_bind,run_underlying s,Result.andThen_ok,f];simp only[pure,Sem.run,Result.andThen_ok,u,l,Sem.run_bind]
         . rename_i A;obtain⟨zv,o,rfl⟩:=qBu.1 a;obtain⟨r',l,I⟩:=vB (w:=w) y C es c.toList _ E F A;simp only at I;subst I;unfold qbN at o;split at o
           . rename_i j N;obtain⟨a0,U,D,Y,X,a1,rfl⟩:=qH N;cases o;have L:=qi.ofV K D;refine⟨if ok then .tuple #[D,.bool false] else D,?_,by split<;>simp[qi,qj,L]⟩;rcases f with⟨rfl,rfl⟩|⟨B,clock,rfl,f⟩
             . simp only[Instr.lookup,Sem.run_bind,run_underlying s,Result.andThen_ok];simp only[pure,Sem.run,Result.andThen_ok,u,l,Sem.run_bind];simp[*,zeroValue,typeInfo]
             simp only[Instr.lookup,Sem.run_bind,run_underlying s,Result.andThen_ok,f];simp only[pure,Sem.run,Result.andThen_ok,u,l,Sem.run_bind];simp[*,zeroValue,typeInfo]
           cases o
         cases a
       cases a
     cases a
   cases a
 cases a
def K9(h:WRel G w0 ro0 K σ w){t m k v U k' v'}(N:qi K m U)(f:qi K k k')(Q:qi K v v'){σ'}(c:zq (Dof P) σ t m k v=some σ'):
 ∃w',(Instr.mapUpdate t U k' v').run P w=.ok () w'/\WRel G w0 ro0 K σ' w':=by
 unfold zq at c;split at c
 . rename_i i hD;obtain⟨inf,d,z,hi,M,_,rfl⟩:=qH hD;simp only at c;split at c
   . rename_i kt et hd;have:=qb4 hd;subst this;split at c
     . rename_i I;split at c
       . rename_i b;split at c
         . rename_i es clock hb;simp only[qi]at N;obtain⟨B,J,rfl⟩:=N;obtain⟨B',h1,a5,l,⟨g,A,u,y⟩,_⟩:=h.blk b _ hb;rw[J]at h1;cases h1;have R:=(qBk.1 hb).1;have V:=Yu (P:=P) (w:=w) I f false;have T:∀(o:Obj),(setObj B o).run P w=.ok () {w with heap:=w.heap.setIfInBounds B o}:=by
            intro o;simp[setObj,Sem.run,A]
           have S:∀o:Obj,(∀k,k≠B->({w with heap:=w.heap.setIfInBounds B o}:World).heap[k]?=w.heap[k]?):=by
            intro o k f;simp[qDO (Ne.symm f)]
           split at c
           . rename_i s v0 D;cases c;obtain⟨r',C,v1,rfl,g4,e0,g5,g6⟩:=vB (w:=w) I f es g.toList _ (by simpa using u) (fun j k v b e=>by simpa using y j k v b e) D;refine⟨{w with heap:=w.heap.setIfInBounds B (.map (g.modify s fun e=>{e with key:=k',val:=v'}) clock)},?_,?_⟩
             . simp only[Instr.mapUpdate,Sem.run_bind,run_underlying M,Result.andThen_ok];simp[getObj,Sem.run,A,V,C,Instr.keyThatStays,show g[s]?=some e0 by simpa using g5,g6,T]
             refine h.setBlk (B:=B) R J rfl rfl rfl (by simp) (S _) ?_ (by rw[hb];simp) (fun E L F a=>by simp[l]at a) (fun E L F a=>by simp[l]at a);refine⟨g.modify s fun e=>{e with key:=k',val:=v'},by simp[l],by simp[u],?_⟩;intro j Y X b2 a;rw[qDg]at a
             cases r:es[j]? with
             |none=>simp[r]at a
             | some a0=>
              obtain⟨k3,v3,b3⟩:=a0;obtain⟨e,a1,a2,Z,O⟩:=y j k3 v3 b3 r;rw[r]at a;rw[Array.getElem?_modify,a1];by_cases x:s=j
              . simp only[if_pos x,Option.map_eq_map,qEt,qBI,qBK]at a;obtain⟨rfl,rfl,rfl⟩:=a;rw[if_pos x];exact⟨_,rfl,f,Q,O⟩
              simp only[if_neg x,Option.map_eq_map,qEt,qBI,qBK]at a;obtain⟨rfl,rfl,rfl⟩:=a;rw[if_neg x];exact⟨e,rfl,a2,Z,O⟩
           . rename_i D;cases c;obtain⟨r',C,W⟩:=vB (w:=w) I f es g.toList _ (by simpa using u) (fun j k v b e=>by simpa using y j k v b e) D;simp only at W;subst W;refine⟨{w with heap:=w.heap.setIfInBounds B (.map (g.push {key:=k',val:=v',born:=clock}) (clock+1))},?_,?_⟩
             . simp only[Instr.mapUpdate,Sem.run_bind,run_underlying M,Result.andThen_ok];simp[getObj,Sem.run,A,V,C,T]
             refine h.setBlk (B:=B) R J rfl rfl rfl (by simp) (S _) ?_ (by rw[hb];simp) (fun E L F a=>by simp[l]at a) (fun E L F a=>by simp[l]at a);refine⟨g.push {key:=k',val:=v',born:=clock},by simp[l],by simp[u],?_⟩;intro j Y X b2 a;rw[qCn]at a;rw[Array.getElem?_push];split at a
             . rename_i r;rw[if_neg (by omega)];exact y j Y X b2 a
             rename_i r;have:j-es.length=0:=by
              rcases qCI (j-es.length) with h0|h0
              . exact h0
              rw[qBW (by simp;omega)]at a;cases a
             rw[this]at a;simp at a;obtain⟨rfl,rfl,rfl⟩:=a;rw[if_pos (by omega)];exact⟨_,rfl,f,Q,rfl⟩
           cases c
         cases c
       cases c
     cases c
   cases c
 cases c
end
section
variable {P:Program}{G:Nat->AV}{w0:World}{ro0:Nat->Nat->Option Value}{K:Kn}{σ:St}{w w':World}{N:Nat}{env:Env}{a:Act}
def qeo(h:WRel G w0 ro0 K σ w){t:Nat}{x:Value}{s:List UInt8}(b:P.underlying t=some .string)(a:qi K (.str s) x):Ran P G w0 ro0 K w (Instr.range t x) (.iter σ.H.length) (σ.push (.siter s 0)):=by
 simp only[qi]at a;subst a;refine⟨.pointer (some ⟨w.heap.size,0,none⟩),w.alloc (.stringIter ⟨s.toArray⟩ 0),K.addM σ.H.length w.heap.size (yc _),?_,qFT h _ _,h.push ?_,?_⟩
 . simp[Instr.range,run_underlying b]
 . simp[yv]
 simp only[qi];exact⟨w.heap.size,by simp[Kn.addM],rfl⟩
def qh3(h:WRel G w0 ro0 K σ w){t:Nat}{x:Value}{a:AV}{v:AV}{σ':St}(j:qi K a x)(c:qaX σ a=some (v,σ')):Ran P G w0 ro0 K w (Instr.next x true t) v σ':=by
 unfold qaX at c;split at c
 . rename_i b;split at c
   . rename_i s pos hb;simp only[qi]at j;obtain⟨B,l,rfl⟩:=j;obtain⟨B',h1,z,g,f,_⟩:=h.blk b _ hb;rw[l]at h1;cases h1;simp only[yv]at f;have m:b<σ.H.length:=(qBk.1 hb).1;split at c
     . rename_i i;simp only[qBI,qBK]at c;obtain⟨rfl,rfl⟩:=c;have e:pos<(ByteArray.mk s.toArray).size:=(by simpa[ByteArray.size] using i);refine⟨.tuple #[.bool true,.int .i64 pos,.int .i32 (Utf8.decode ⟨s.toArray⟩ pos).1],{w with heap:=w.heap.setIfInBounds B (.stringIter ⟨s.toArray⟩ (pos+(Utf8.decode ⟨s.toArray⟩ pos).2))},K,?_,qFX K,?_,?_⟩
       . simp[Instr.next,getObj,setObj,Sem.run,f,e,goInt]
       . refine h.setBlk (B:=B) m l rfl rfl rfl (by simp) (fun k o=>by simp[qDO (Ne.symm o)]) ?_ (by rw[hb];simp) (fun r u y d=>by simp[g]at d) (fun r u y d=>by simp[g]at d);simp[yv,g]
       simp[qi,qj]
     rename_i i;simp only[qBI,qBK]at c;obtain⟨rfl,rfl⟩:=c;have e:¬pos<(ByteArray.mk s.toArray).size:=(by simpa[ByteArray.size] using i);refine⟨.tuple #[.bool false],w,K,?_,qFX K,h,?_⟩
     . simp[Instr.next,getObj,Sem.run,f,e]
     simp[qi,qj]
   cases c
 cases c
def Did(P:Program)(G:Nat->AV)(w0:World)(ro0:Nat->Nat->Option Value)(K:Kn)(w:World)(s:Sem Next)(v:AV)(σ':St):Prop :=
 ∃v' w' K',(s.run P w=.ok (.value v') w'\/(s.run P w=.ok .skip w'/\v'=undef))/\K.le K'/\WRel G w0 ro0 K' σ' w'/\qi K' v v'
def Did.of_ran{s:Sem Value}{v σ'}(h:Ran P G w0 ro0 K w s v σ'):Did P G w0 ro0 K w (do pure (.value (<- s))) v σ':=by
 obtain⟨v',w',K',h1,h2,b,a⟩:=h;exact⟨v',w',K',.inl (by simp[h1]),h2,b,a⟩
def qF1:=@Did.of_ran
def Did.of_same(h:WRel G w0 ro0 K σ w){s:Sem Value}{v}(a:∃v',s.run P w=.ok v' w/\qi K v v'):Did P G w0 ro0 K w (do pure (.value (<- s))) v σ:=by
 obtain⟨v',h1,h2⟩:=a;exact qF1 (qF0 h h1 h2)
def qF2:=@Did.of_same
def Did.of_unit{s:Sem Unit}{σ'}(a:∃w',s.run P w=.ok () w'/\WRel G w0 ro0 K σ' w'):Did P G w0 ro0 K w (do s;pure .skip) (.tup []) σ':=by
 obtain⟨w',h1,h2⟩:=a;exact⟨undef,w',K,.inr ⟨by simp[h1],rfl⟩,qFX K,h2,by simp only[qi];exact⟨#[],rfl,by simp[qj]⟩⟩
def qcA(d:WRel G w0 ro0 K σ w)(c:ERel K N env a)(b:Array (Nat×Operand)):
 (b.map fun(i,x)=>(i,a.eval x)).toList.map (·.1)=(b.toList.map fun p=>(p.1,ev G env p.2)).map (·.1) /\
   qj K ((b.toList.map fun p=>(p.1,ev G env p.2)).map (·.2)) ((b.map fun(i,x)=>(i,a.eval x)).toList.map (·.2)):=by
 constructor
 . simp
 have:=QR d c (b.toList.map (·.2));simpa[qbJ,Function.comp_def] using this
def KD(A:WRel G w0 ro0 K σ w)(F:ERel K N env a)(o){v σ'}(h:sem (Dof P) G env σ o.op=some (v,σ')):
 Did P G w0 ro0 K w (execOp a.eval o) v σ':=by
 have ex:=Jn A F;obtain⟨dst,op,type,pos,after,guard⟩:=o;simp only at h;cases op<;>simp only[sem]at h
 case move x=>
  simp only[qBI,qBK]at h;obtain⟨rfl,rfl⟩:=h;exact⟨a.eval x,w,K,.inl rfl,qFX K,A,ex x⟩
 case assign x=>
  simp only[qBI,qBK]at h;obtain⟨rfl,rfl⟩:=h;exact⟨a.eval x,w,K,.inl rfl,qFX K,A,ex x⟩
 case pick c x y=>
  split at h
  . rename_i b hb;simp only[qBI,qBK]at h;obtain⟨rfl,rfl⟩:=h;have T:=ex c;rw[hb]at T;simp only[qi]at T;refine⟨if b then a.eval x else a.eval y,w,K,.inl ?_,qFX K,A,?_⟩
    . simp[execOp,T,asBool]
    cases b
    . exact ex y
    exact ex x
  cases h
 case alloc e=>
  split at h
  . rename_i i hi;split at h
    . rename_i hz;simp only[qBI,qBK]at h;obtain⟨rfl,rfl⟩:=h;exact qF1 (qfi A hi hz)
    cases h
  cases h
 case box e x=>
  obtain⟨c,T,g⟩:=qBu.1 h;simp only[qBK]at g;obtain⟨rfl,rfl⟩:=g;exact qF1 (qlY A (ex x) T)
 case build t ps=>
  obtain⟨u,C,g⟩:=qBu.1 h;simp only[qBK]at g;obtain⟨rfl,rfl⟩:=g;obtain⟨p1,p2⟩:=qcA A F ps;exact qF1 (qe9 A p1 p2 C)
 case buildSlice t n ps=>
  obtain⟨u,C,g⟩:=qBu.1 h;simp only[qBK]at g;obtain⟨rfl,rfl⟩:=g;obtain⟨p1,p2⟩:=qcA A F ps;exact qF1 (YK A p1 p2 C)
 case load t x=>
  obtain⟨u,C,g⟩:=qBu.1 h;simp only[qBK]at g;obtain⟨rfl,rfl⟩:=g;exact qF1 (qh9 A (ex x) C)
 case store t x y=>
  obtain⟨u,C,g⟩:=qBu.1 h;simp only[qBK]at g;obtain⟨rfl,rfl⟩:=g;exact Did.of_unit (Zt A (ex x) (ex y) C)
 case nilCheck x=>
  have D:=ex x;split at h
  . rename_i b o hb;simp only[qBI,qBK]at h;obtain⟨rfl,rfl⟩:=h;rw[hb]at D;have a3:=D;simp only[qi]at D;obtain⟨B,_,e⟩:=D;exact⟨a.eval x,w,K,.inl (by simp[execOp,e]),qFX K,A,a3⟩
  . rename_i c hb;simp only[qBI,qBK]at h;obtain⟨rfl,rfl⟩:=h;rw[hb]at D;have a3:=D;simp only[qi]at D;obtain⟨B,off,e,_⟩:=D;exact⟨a.eval x,w,K,.inl (by simp[execOp,e]),qFX K,A,a3⟩
  cases h
 case binOp op t x y u=>
  obtain⟨u,C,g⟩:=qBu.1 h;simp only[qBK]at g;obtain⟨rfl,rfl⟩:=g;exact qF2 A (ql3 (ex x) (ex y) C x y)
 case unOp op t x=>
  obtain⟨u,C,g⟩:=qBu.1 h;simp only[qBK]at g;obtain⟨rfl,rfl⟩:=g;exact qF2 A (qm0 (ex x) C)
 case convert s d x=>
  obtain⟨u,C,g⟩:=qBu.1 h;simp only[qBK]at g;obtain⟨rfl,rfl⟩:=g;exact qF2 A (qix A (ex x) C)
 case makeFunc fn x y=>
  cases fn<;>simp only at h<;>try(cases h;done)
  rename_i f;simp only[qBI,qBK]at h;obtain⟨rfl,rfl⟩:=h;refine⟨.func (.func f) (x.map a.eval) (y.map a.eval),w,K,.inl (by simp[execOp,Instr.makeFunc]),qFX K,A,?_⟩;simp only[qi];exact⟨_,_,rfl,by simpa using QR A F x.toList,by simpa using QR A F y.toList⟩
 case makeMap t r=>
  cases r with
  | none=>
   simp only[qBI,qBK]at h;obtain⟨rfl,rfl⟩:=h;exact qF1 (qa2 A t)
  |some r=>cases h
 case makeSlice t l c=>exact qF1 (Qq A (ex l) (ex c) h)
 case slice t x lo hi mx=>
  obtain⟨a6,a1⟩:=qew A F lo;obtain⟨a7,a4⟩:=qew A F hi;obtain⟨a8,a5⟩:=qew A F mx;have D:=ex x;split at h
  . rename_i i hD;obtain⟨inf,d,z,hi,C,_,rfl⟩:=qH hD;simp only at h;split at h
    . rename_i s hd R;have:=Qd hd;subst this;obtain⟨u,U,g⟩:=qBu.1 h;simp only[qBK]at g;obtain⟨rfl,rfl⟩:=g;rw[R]at D;simp only[qi]at D;have:=qjJ (P:=P) (K:=K) (w:=w) C a6 a1 a7 a4 a5 U;rw[<- D]at this;exact qF2 A this
    . rename_i e hd;have:=Zd hd;subst this;split at h
      . rename_i j sz rows tok X R;obtain⟨b1,d2,z2,Y,b0,_,rfl⟩:=qH X;split at h
        . rename_i V;obtain⟨u,U,g⟩:=qBu.1 h;simp only[qBK]at g;obtain⟨rfl,rfl⟩:=g;rw[R]at D;exact qF2 A (qni C Y V D a6 a1 a7 a4 a8 a5 U)
        cases h
      . rename_i j b off len sz X R;obtain⟨b1,d2,z2,Y,b0,_,rfl⟩:=qH X;split at h
        . rename_i V;simp only at V;subst V;obtain⟨u,U,g⟩:=qBu.1 h;simp only[qBK]at g;obtain⟨rfl,rfl⟩:=g;rw[R]at D;exact qF2 A (qnj C Y D a6 a1 a7 a4 a5 U)
        cases h
      cases h
    cases h
  cases h
 case fieldAddr s x f=>
  obtain⟨u,C,g⟩:=qBu.1 h;simp only[qBK]at g;obtain⟨rfl,rfl⟩:=g;exact qF2 A (Wz A (ex x) C)
 case field s x f=>
  obtain⟨u,C,g⟩:=qBu.1 h;simp only[qBK]at g;obtain⟨rfl,rfl⟩:=g;exact qF2 A (qeU (ex x) C)
 case indexAddr t x i=>
  obtain⟨u,C,g⟩:=qBu.1 h;simp only[qBK]at g;obtain⟨rfl,rfl⟩:=g;exact qF2 A (Wl A (ex x) (ex i) C)
 case index t x i=>
  obtain⟨u,C,g⟩:=qBu.1 h;simp only[qBK]at g;obtain⟨rfl,rfl⟩:=g;exact qF2 A (qeL (ex x) (ex i) C)
 case lookup t x i ok=>
  obtain⟨u,C,g⟩:=qBu.1 h;simp only[qBK]at g;obtain⟨rfl,rfl⟩:=g;exact qF2 A (qcP A (ex x) (ex i) C)
 case mapUpdate t m k x=>
  obtain⟨u,C,g⟩:=qBu.1 h;simp only[qBK]at g;obtain⟨rfl,rfl⟩:=g;exact Did.of_unit (K9 A (ex m) (ex k) (ex x) C)
 case range t x=>
  have D:=ex x;split at h
  . rename_i i s hD R;obtain⟨inf,d,z,hi,C,_,rfl⟩:=qH hD;simp only at h;split at h
    . rename_i hd;have:=Qd hd;subst this;simp only[qBI,qBK]at h;obtain⟨rfl,rfl⟩:=h;rw[R]at D;exact qF1 (qeo A C D)
    cases h
  cases h
 case next it b=>
  cases b with
  |false=>cases h
  | true=>
   simp only at h;exact qF1 (qh3 A (ex it) h)
 case extract x i=>
  obtain⟨u,C,g⟩:=qBu.1 h;simp only[qBK]at g;obtain⟨rfl,rfl⟩:=g;exact qF2 A (qbe (ex x) C)
 case call c=>
  obtain⟨callee,args,argTypes⟩:=c;cases callee<;>simp only at h<;>try(cases h;done)
  rename_i b;have E:=QR A F args.toList;unfold zL at h;split at h
  . rename_i t x a0 J;obtain⟨u,C,g⟩:=qBu.1 h;simp only[qBK]at g;obtain⟨rfl,rfl⟩:=g;rw[J]at E;simp only[qj]at E;obtain⟨v1,W,L,h1,rfl⟩:=E;have I:args.map a.eval = #[v1]:=(by apply Array.ext';simpa using L);have Z:argTypes = #[t]:=(by apply Array.ext';simpa using a0);have:=qkR A h1 type C;obtain⟨v',O,M⟩:=this;exact⟨v',w,K,.inl (by simp[execOp,resolve,invoke,builtin,I,Z,O]),qFX K,A,M⟩
  . rename_i t u x y a0 J;split at h
    . rename_i a9;subst a9;rw[J]at E;simp only[qj]at E;obtain⟨v1,W,L,h1,S,a2,Q,h2,rfl⟩:=E;have I:args.map a.eval = #[v1,S]:=(by apply Array.ext';simpa[Q] using L);have Z:argTypes = #[u,u]:=(by apply Array.ext';simpa using a0);obtain⟨v',w',K',O,M,r3,r4⟩:=qdE A h1 h2 type h;exact⟨v',w',K',.inl (by simp[execOp,resolve,invoke,builtin,I,Z,O]),M,r3,r4⟩
    cases h
  . rename_i x y J;obtain⟨u,C,g⟩:=qBu.1 h;simp only[qBK]at g;obtain⟨rfl,rfl⟩:=g;rw[J]at E;simp only[qj]at E;obtain⟨v1,W,L,h1,S,a2,Q,h2,rfl⟩:=E;have I:args.map a.eval = #[v1,S]:=(by apply Array.ext';simpa[Q] using L);obtain⟨v',O,M⟩:=qkJ (P:=P) (w:=w) h1 h2 argTypes type C;exact⟨v',w,K,.inl (by simp[execOp,resolve,invoke,builtin,I,O]),qFX K,A,M⟩
  . rename_i x y z J;obtain⟨u,C,g⟩:=qBu.1 h;simp only[qBK]at g;obtain⟨rfl,rfl⟩:=g;rw[J]at E;simp only[qj]at E;obtain⟨v1,W,L,h1,S,a2,Q,h2,v3,b2,e3,h3,rfl⟩:=E;have I:args.map a.eval = #[v1,S,v3]:=(by apply Array.ext';simpa[Q,e3] using L);obtain⟨v',O,M⟩:=qh7 (P:=P) (w:=w) h1 h2 h3 argTypes type C;exact⟨v',w,K,.inl (by simp[execOp,resolve,invoke,builtin,I,O]),qFX K,A,M⟩
  . rename_i x y J;obtain⟨u,C,g⟩:=qBu.1 h;simp only[qBK]at g;obtain⟨rfl,rfl⟩:=g;rw[J]at E;simp only[qj]at E;obtain⟨v1,W,L,h1,S,a2,Q,h2,rfl⟩:=E;have I:args.map a.eval = #[v1,S]:=(by apply Array.ext';simpa[Q] using L);obtain⟨v',O,M⟩:=qkN (P:=P) (w:=w) h1 h2 argTypes type C;exact⟨v',w,K,.inl (by simp[execOp,resolve,invoke,builtin,I,O]),qFX K,A,M⟩
  cases h
 all_goals(first|(cases h;done)|(split at h<;>cases h))
end
mutual
def qE:AV->Bool
 |.ptr ..|.ms ..|.map _|.iter _|.any=>false
 |.rptr c=>qr c
 |.sl _ rows tok=>(match tok with|.chain .. =>false|_=>true)&&qM rows
 |.fn _ a b=>qr a&&qr b
 |.agg c=>qr c
 |.tup c=>qr c
 |_=>true
def qr:List AV->Bool
 |[]=>true
 |a::r=>qE a&&qr r
def qM:List (List AV)->Bool
 |[]=>true
 |a::r=>qr a&&qM r
end
def qcI:∀l,qr l=l.all qE
 |[]=>rfl
 |a::r=>by simp[qr,qcI r]
def VT:∀l,qM l=l.all (·.all qE)
 |[]=>rfl
 |a::r=>by simp[qM,VT r,qcI]
mutual
def qi.toK0{K}:∀(a){v:Value},qE a=true->qi K a v->qi (K0 K.ro) a v
 |.any,_,h,_=>by simp[qE]at h
 |.bool b,_,_,x=>by simpa[qi] using x
 |.int k n,_,_,x=>by simpa[qi] using x
 |.str s,_,_,x=>by simpa[qi] using x
 |.nilp,_,_,x=>by simpa[qi] using x
 |.ptr b off,_,h,x=>by simp[qE]at h
 | .rptr c,_,h,x=>by
  simp only[qi,qE]at h x⊢;obtain⟨B,off,h1,h2⟩:=x;exact⟨B,off,h1,qq.toK0 c B off h h2⟩
 | .sl sz rows tok,_,h,x=>by
  simp only[qi,qE,qBq]at h x⊢;rcases x with x|⟨B,off,cap,h1,h2,d,i⟩
  . exact .inl x
  refine .inr ⟨B,off,cap,h1,h2,qQ.toK0 rows B off sz h.2 d,?_⟩;cases tok<;>simp_all[wo]
 |.ms b off len sz,_,h,x=>by simp[qE]at h
 |.nilm,_,_,x=>by simpa[qi] using x
 |.map b,_,h,x=>by simp[qE]at h
 |.iter b,_,h,x=>by simp[qE]at h
 | .fn f a b,_,h,x=>by
  simp only[qi,qE,qBq]at h x⊢;obtain⟨e,g,h1,h2,d⟩:=x;exact⟨e,g,h1,qj.toK0 a h.1 h2,qj.toK0 b h.2 d⟩
 |.nilf,_,_,x=>by simpa[qi] using x
 | .agg c,_,h,x=>by
  simp only[qi,qE]at h x⊢;obtain⟨vs,h1,h2⟩:=x;exact⟨vs,h1,qj.toK0 c h h2⟩
 | .tup c,_,h,x=>by
  simp only[qi,qE]at h x⊢;obtain⟨vs,h1,h2⟩:=x;exact⟨vs,h1,qj.toK0 c h h2⟩
def qj.toK0{K}:∀(l){vs:List Value},qr l=true->qj K l vs->qj (K0 K.ro) l vs
 |[],_,_,x=>by simpa[qj] using x
 | a::r,_,h,x=>by
  simp only[qj,qr,qBq]at h x⊢;obtain⟨v,b,h1,h2,c⟩:=x;exact⟨v,b,h1,qi.toK0 a h.1 h2,qj.toK0 r h.2 c⟩
def qq.toK0{K}:∀(l) (B off),qr l=true->qq K B off l->qq (K0 K.ro) B off l
 |[],_,_,_,_=>by simp[qq]
 | a::r,B,off,h,x=>by
  simp only[qq,qr,qBq]at h x⊢;obtain⟨⟨v,h1,h2⟩,b⟩:=x;exact⟨⟨v,h1,qi.toK0 a h.1 h2⟩,qq.toK0 r _ _ h.2 b⟩
def qQ.toK0{K}:∀(l) (B off sz),qM l=true->qQ K B off sz l->qQ (K0 K.ro) B off sz l
 |[],_,_,_,_,_=>by simp[qQ]
 | a::r,B,off,sz,h,x=>by
  simp only[qQ,qM,qBq]at h x⊢;obtain⟨⟨h1,h0,h2⟩,b⟩:=x;exact⟨⟨h1,h0,qq.toK0 a _ _ h.1 h2⟩,qQ.toK0 r _ _ _ h.2 b⟩
end
def pl1:AV->AV
 |.sl sz rows (.chain _ _)=>.sl sz rows .none
 |v=>v
def pl2:AV->AV
 |.agg c=>.agg (c.map pl1)
 |v=>pl1 v
def plain:AV->AV
 |.tup c=>.tup (c.map pl2)
 |v=>pl2 v
def ww(sz:Nat):Nat->List AV->List (List AV)
 |0,_=>[]
 |n+1,c=>c.take sz::ww sz n (c.drop sz)
def kw(H:List Blk):AV->AV
 | .ms b off len sz=>match H[b]? with
  |some (.cells c)=>if off+len*sz<=c.length then .sl sz (ww sz len (c.drop off)) .none else .any
  |_=>.any
 |v=>pl1 v
def w9(H:List Blk):AV->AV
 |.agg c=>.agg (c.map (kw H))
 |v=>kw H v
def fin(H:List Blk):AV->AV
 |.tup c=>.tup (c.map (w9 H))
 |v=>w9 H v
def qet{K v}:∀{a:AV},qi K a v->qi K (pl1 a) v:=by
 intro a h;unfold pl1;split
 . rename_i sz rows t k;simp only[qi]at h⊢;rcases h with⟨_,_,h⟩|⟨B,off,cap,h1,h2,b,_⟩
   . exact h.elim
   exact .inr ⟨B,off,cap,h1,h2,b,trivial⟩
 exact h
def qj.mapRel{K K' f}(b:∀a v,qi K a v->qi K' (f a) v):∀(l){vs:List Value},qj K l vs->qj K' (l.map f) vs
 |[],_,h=>by simpa[qj] using h
 | a::r,_,h=>by
  simp only[qj,qBz]at h⊢;obtain⟨v,c,h1,h2,d⟩:=h;exact⟨v,c,h1,b a v h2,qj.mapRel b r d⟩
def qFw:=@qj.mapRel
def qkl{K v}:∀{a:AV},qi K a v->qi K (pl2 a) v:=by
 intro a h;unfold pl2;split
 . simp only[qi]at h⊢;obtain⟨vs,h1,h2⟩:=h;exact⟨vs,h1,qFw (fun _ _=>qet) _ h2⟩
 exact qet h
def qki{K v}:∀{a:AV},qi K a v->qi K (plain a) v:=by
 intro a h;unfold plain;split
 . simp only[qi]at h⊢;obtain⟨vs,h1,h2⟩:=h;exact⟨vs,h1,qFw (fun _ _=>qkl) _ h2⟩
 exact qkl h
def J1(sz):∀(n) (c),n*sz<=c.length->(ww sz n c).length=n/\∀(i) (r),(ww sz n c)[i]?=some r->r=(c.drop (i*sz)).take sz/\i<n
 |0,c,_=>⟨rfl,by simp[ww]⟩
 | n+1,c,h=>by
  rw[qCx]at h;obtain⟨h1,h2⟩:=J1 sz n (c.drop sz) (by simp;omega);refine⟨by simp[ww,h1],fun i r e=>?_⟩
  cases i with
  |zero=>simp[ww]at e;subst e;simp
  | succ i=>
   simp only[ww,qDP]at e;obtain⟨a,b⟩:=h2 i r e;refine⟨?_,by omega⟩;rw[a,qDZ,qCx,qEA,qDn sz]
section
variable {P:Program}{G:Nat->AV}{w0:World}{ro0:Nat->Nat->Option Value}{K:Kn}{σ:St}{w w':World}
open Classical in
noncomputable def Qi(w0 w:World)(ro:Nat->Nat->Option Value):Nat->Nat->Option Value :=
 fun b o=>match ro b o with
  |some v=>some v
  |none=>if w0.heap.size<=b then w.cell? ⟨b,o,none⟩ else none
def YS(w0 w ro b o v)(h:ro b o=some v):Qi w0 w ro b o=some v:=by simp[Qi,h]
def Kn.le_end(K:Kn)(w0 w):K.le {K with ro:=Qi w0 w K.ro} :=
 ⟨fun b o v e=>YS w0 w K.ro b o v e,fun _ _ e=>e,qBs _,fun t C _ e=>⟨C,e,.inl rfl⟩,fun _ _ _=>rfl,fun _ _ e=>e,fun _ _ e=>e⟩
def WRel.end_ro(h:WRel G w0 ro0 K σ w):(∀b o v,Qi w0 w K.ro b o=some v->w.cell? ⟨b,o,none⟩=some v)/\(∀b o v,Qi w0 w K.ro b o=some v->b<w0.heap.size->ro0 b o=some v):=by
 constructor
 . intro b o v e;simp only[Qi]at e;split at e
   . rename_i u a;cases e;exact h.ro _ _ _ a
   split at e
   . exact e
   cases e
 intro b o v e hb;simp only[Qi]at e;split at e
 . rename_i u a;cases e;exact h.new _ _ _ a hb
 rw[if_neg (by omega)]at e;cases e
def qgM(h:WRel G w0 ro0 K σ w){a v}(f:qi K a v):qi {K with ro:=Qi w0 w K.ro} (kw σ.H a) v:=by
 have l:=Kn.le_end K w0 w;unfold kw;split
 . rename_i b off len sz;split
   . rename_i c hb;split
     . rename_i J;simp only[qi]at f⊢;obtain⟨B,cap,z,rfl,h1,h2⟩:=f;obtain⟨B',m,t,L,⟨cs,el,y,o,M,A⟩,D⟩:=h.blk b _ hb;rw[z]at m;cases m;obtain⟨k1,F⟩:=J1 sz len (c.drop off) (by simp;omega);refine .inr ⟨B,off,cap,by rw[k1],by rw[k1];exact h1,qGa B sz _ off fun i r e=>?_,trivial⟩;obtain⟨d,I⟩:=F i r e;have s:(i+1)*sz<=len*sz:=qCz _ (by omega);rw[qCx,qEA]at s;refine⟨by rw[d];simp;omega,?_,qF9 B r _ fun j x ex=>?_⟩
       . rw[qBx]at o⊢;intro x g;rw[d]at g;exact o x (qCD (qCD (qB6 g)))
       rw[d,qCi]at ex;split at ex
       . rw[qCm,qCm]at ex;obtain⟨u,C,E⟩:=A _ _ ex;refine⟨u,?_,E.mono l⟩;simp only[Qi,D];rw[if_pos t];simp only[World.cell?,y];simpa[qDu] using C
       cases ex
     simp[qi]
   simp[qi]
 exact(qet f).mono l
def qgL(h:WRel G w0 ro0 K σ w){a v}(b:qi K a v):qi {K with ro:=Qi w0 w K.ro} (w9 σ.H a) v:=by
 unfold w9;split
 . simp only[qi]at b⊢;obtain⟨vs,h1,h2⟩:=b;exact⟨vs,h1,qFw (fun _ _=>qgM h) _ h2⟩
 exact qgM h b
def qsX(h:WRel G w0 ro0 K σ w){a v}(b:qi K a v):qi {K with ro:=Qi w0 w K.ro} (fin σ.H a) v:=by
 unfold fin;split
 . simp only[qi]at b⊢;obtain⟨vs,h1,h2⟩:=b;exact⟨vs,h1,qFw (fun _ _=>qgL h) _ h2⟩
 exact qgL h b
end
def bodied (P:Program) (g:FuncId):Bool:=P.funcs[g]?.any (fun fn=>fn.body.isSome && fn.name != "runtime.NumGoroutine")
def Pure(P:Program)(G:Nat->AV)(f:FuncId)(args:List AV)(r:AV):Prop :=
 bodied P f=true/\∀(w0) (ro) (vs),(∀g,qi (K0 ro) (G g) (.pointer (some ⟨g,0,none⟩)))->(∀b o v,ro b o=some v->w0.cell? ⟨b,o,none⟩=some v)->qj (K0 ro) args vs.toList ->
  Calls P f vs w0 fun e w'=>∃v ro',e=.returned v/\Below w0.heap.size w0 w'/\(∀b o v,ro b o=some v->ro' b o=some v)/\(∀b o v,ro' b o=some v->w'.cell? ⟨b,o,none⟩=some v) /\
   (∀b o v,ro' b o=some v->b<w0.heap.size->ro b o=some v)/\qi (K0 ro') r v
def qxa(D:Nat):Deferred:={target:=.collected D,args:=#[]}
def Dfr(K:Kn)(ds:List Deferred)(K':Kn)(b:List Deferred):Prop :=
 ∃a:List Nat,a.Nodup/\b=a.map qxa++ds/\∀D∈a,K.fx D=none/\K'.fx D=some (.deferred (some []))
def Dfr.same{K K'}{ds a:List Deferred}(h:a=ds):Dfr K ds K' a:=⟨[],List.nodup_nil,by simp[h],by simp⟩
def Dfr.trans{K d g}{ds j l:List Deferred}(h1:K.le d)(h2:d.le g)(a:Dfr K ds d j)(b:Dfr d j g l):Dfr K ds g l:=by
 obtain⟨D1,n1,m,f1⟩:=a;obtain⟨D2,u,s,i⟩:=b;refine⟨D2++D1,?_,by rw[s,m];simp,fun D c=>?_⟩
 . refine qCX.2 ⟨u,n1,fun x r y t e=>?_⟩;subst e;have:=(i x r).1;rw[(f1 x t).2]at this;cases this
 rcases qBC.1 c with c|c
 . obtain⟨f,h⟩:=i D c;refine⟨?_,h⟩
   cases e:K.fx D with
   |none=>rfl
   |some o=>rw[h1.fx D o e]at f;cases f
 obtain⟨f,h⟩:=f1 D c;exact⟨f,h2.fx _ _ h⟩
structure Glo where
 g:Nat->AV
 X:List PanicEntry->St->Prop
instance:Coe Glo (Nat->AV):=⟨Glo.g⟩
def Glo.NoX(G:Glo):Prop:=∀c σ,¬G.X c σ
abbrev qW(g:Nat->AV):Glo:=⟨g,fun _ _=>False⟩
instance:Coe (Nat->AV) Glo:=⟨qW⟩
def KS(g):(qW g).NoX:=fun _ _ h=>h
@[simp]def qyu(g):(qW g).g=g:=rfl
def Out(G:Glo)(w0:World)(ro0:Nat->Nat->Option Value)(K:Kn)(ds:List Deferred)(e:Exit)(a:Act)(w:World):Prop :=
 ∃c K' σ,e=.panic c/\K.le K'/\WRel G w0 ro0 K' σ w/\Dfr K ds K' a.defers/\G.X c σ
def J9(G:Glo)(w0:World)(ro0:Nat->Nat->Option Value)(K:Kn)(N:Nat)(ds:List Deferred)(Q:Exit->Env->St->Prop):Exit->Act->World->Prop :=
 fun e a w=>(∃K' env σ,K.le K'/\WRel G w0 ro0 K' σ w/\ERel K' N env a/\Dfr K ds K' a.defers/\Q e env σ)\/Out G w0 ro0 K ds e a w
def AWp(P:Program)(G:Glo)(N:Nat)(c:Code)(env:Env)(σ:St)(Q:Exit->Env->St->Prop):Prop :=
 ∀(w0) (ro0) (K) (a) (w),WRel G w0 ro0 K σ w->ERel K N env a->c.wp P (J9 G w0 ro0 K N a.defers Q) a w
def qh(P:Program)(G:Glo)(f:FuncId)(args:List AV)(σ:St)(Q:AV->St->Prop):Prop :=
 bodied P f=true/\∀(w0) (ro0) (K) (w) (vs),WRel G w0 ro0 K σ w->qj K args vs.toList ->
  Calls P f vs w fun e w'=>(∃v' v σ' K',e=.returned v'/\K.le K'/\WRel G w0 ro0 K' σ' w'/\qi K' v v'/\Q v σ')\/∃c σ' K',e=.panicked c/\K.le K'/\WRel G w0 ro0 K' σ' w'/\G.X c σ'
section
variable {P:Program}{G:Glo}{N:Nat}{env:Env}{σ:St}{Q:Exit->Env->St->Prop}
def J9.mono{w0 ro0 K}{ds:List Deferred}{Q' e a w}(h:J9 G w0 ro0 K N ds Q e a w)(b:∀e env σ,Q e env σ->Q' e env σ):J9 G w0 ro0 K N ds Q' e a w:=by
 rcases h with⟨K',env',σ',h1,h2,c,hd,d⟩|h
 . exact .inl ⟨K',env',σ',h1,h2,c,hd,b _ _ _ d⟩
 exact .inr h
def AWp.mono{c Q'}(h:AWp P G N c env σ Q)(d:∀e env σ,Q e env σ->Q' e env σ):AWp P G N c env σ Q' :=
 fun w0 ro0 K a w f b=>wp_mono (h w0 ro0 K a w f b) fun e a w x=>x.mono d
def AWp.skip(h:Q .normal env σ):AWp P G N .skip env σ Q:=fun w0 ro0 K a w c b=>wp_skip (.inl ⟨K,env,σ,qFX K,c,b,.same rfl,h⟩)
def AWp.ret(h:Q .ret env σ):AWp P G N .ret env σ Q:=fun w0 ro0 K a w c b=>wp_ret (.inl ⟨K,env,σ,qFX K,c,b,.same rfl,h⟩)
def AWp.exit{id}(h:Q (.exit id) env σ):AWp P G N (.exit id) env σ Q:=fun w0 ro0 K a w c b=>wp_exit (.inl ⟨K,env,σ,qFX K,c,b,.same rfl,h⟩)
def vj(next:Env->St->Prop)(Q:Exit->Env->St->Prop):Exit->Env->St->Prop
 |.normal,env,σ=>next env σ
 |e,env,σ=>Q e env σ
def J9.after{w0 ro0 K K'}(b:K.le K'){ds i:List Deferred}(hd:Dfr K ds K' i){e a w}(h:J9 G w0 ro0 K' N i Q e a w):J9 G w0 ro0 K N ds Q e a w:=by
 rcases h with⟨f,env',σ',h1,h2,j,d,g⟩|⟨c,f,σ',e,h1,h2,d,g⟩
 . exact .inl ⟨f,env',σ',qFY b h1,h2,j,hd.trans b h1 d,g⟩
 exact .inr ⟨c,f,σ',e,qFY b h1,h2,hd.trans b h1 d,g⟩
def AWp.seq{x y}(h:AWp P G N x env σ (vj (fun env σ=>AWp P G N y env σ Q) Q)):AWp P G N (.seq x y) env σ Q:=by
 intro w0 ro0 K a w i g;refine wp_seq (wp_mono (h w0 ro0 K a w i g) ?_);intro e j w' f;rcases f with⟨K',env',σ',h1,h2,b,hd,d⟩|⟨c,K',σ',rfl,f⟩
 case inr=>exact .inr ⟨c,K',σ',rfl,f⟩
 cases e with
 |normal=>exact wp_mono (d w0 ro0 K' j w' h2 b) fun e a w x=>x.after h1 hd
 |exit id=>exact .inl ⟨K',env',σ',h1,h2,b,hd,d⟩
 |goto l=>exact .inl ⟨K',env',σ',h1,h2,b,hd,d⟩
 |ret=>exact .inl ⟨K',env',σ',h1,h2,b,hd,d⟩
 |panic c=>exact .inl ⟨K',env',σ',h1,h2,b,hd,d⟩
 |outgrown=>exact .inl ⟨K',env',σ',h1,h2,b,hd,d⟩
def AWp.cond{c x y b}(i:ev G env c=.bool b)(g:b=true->AWp P G N x env σ Q)(h:b=false->AWp P G N y env σ Q):AWp P G N (.cond c x y) env σ Q:=by
 intro w0 ro0 K a w f d;have:=Jn f d c;rw[i]at this;simp only[qi]at this;exact wp_cond_split this (fun e=>g e w0 ro0 K a w f d) (fun e=>h e w0 ro0 K a w f d)
def vk(id:Nat)(Q:Exit->Env->St->Prop):Exit->Env->St->Prop
 |.exit a,env,σ=>if a=id then Q .normal env σ else Q (.exit a) env σ
 |e,env,σ=>Q e env σ
def AWp.block{id c}(h:AWp P G N c env σ (vk id Q)):AWp P G N (.block id c) env σ Q:=by
 intro w0 ro0 K a w i g;refine wp_block (wp_mono (h w0 ro0 K a w i g) ?_);intro e j w' f;rcases f with⟨K',env',σ',h1,h2,d,hd,b⟩|⟨c,K',σ',rfl,f⟩
 case inr=>exact .inr ⟨c,K',σ',rfl,f⟩
 cases e with
 | exit m=>
  simp only[vk]at b;simp only[Exit.inBlock];split
  . rename_i e;rw[if_pos e]at b;exact .inl ⟨K',env',σ',h1,h2,d,hd,b⟩
  rename_i e;rw[if_neg e]at b;exact .inl ⟨K',env',σ',h1,h2,d,hd,b⟩
 |normal=>exact .inl ⟨K',env',σ',h1,h2,d,hd,b⟩
 |goto l=>exact .inl ⟨K',env',σ',h1,h2,d,hd,b⟩
 |ret=>exact .inl ⟨K',env',σ',h1,h2,d,hd,b⟩
 |panic c=>exact .inl ⟨K',env',σ',h1,h2,d,hd,b⟩
 |outgrown=>exact .inl ⟨K',env',σ',h1,h2,d,hd,b⟩
def AWp.loop{c}(I:Nat->Env->St->Prop)(o)(v:I o env σ)
 (round:∀n env σ,I n env σ->AWp P G N c env σ (vj (fun env' σ'=>∃n',n'<n/\I n' env' σ') Q)):AWp P G N (.loop c) env σ Q:=by
 intro w0 ro0 K a w u r;refine wp_loop_ghost (fun n X w=>∃K' env' σ',K.le K'/\WRel G w0 ro0 K' σ' w/\ERel K' N env' X/\Dfr K a.defers K' X.defers/\I n env' σ') o ⟨K,env,σ,qFX K,u,r,.same rfl,v⟩ ?_;intro n x w' y;obtain⟨K',env',σ',h1,h2,s,hd,t⟩:=y;refine wp_mono (round n env' σ' t w0 ro0 K' x w' h2 s) ?_;intro e B C z;rcases z with⟨f,m,i,b,g,j,d,h⟩|⟨c,f,i,rfl,b,g,d,h⟩
 case inr=>exact .inr ⟨c,f,i,rfl,qFY h1 b,g,hd.trans h1 b d,h⟩
 have d:=hd.trans h1 b d
 cases e with
 | normal=>
  obtain⟨n',A,hi⟩:=h;exact⟨n',A,f,m,i,qFY h1 b,g,j,d,hi⟩
 |exit id=>exact .inl ⟨f,m,i,qFY h1 b,g,j,d,h⟩
 |goto l=>exact .inl ⟨f,m,i,qFY h1 b,g,j,d,h⟩
 |ret=>exact .inl ⟨f,m,i,qFY h1 b,g,j,d,h⟩
 |panic c=>exact .inl ⟨f,m,i,qFY h1 b,g,j,d,h⟩
 |outgrown=>exact .inl ⟨f,m,i,qFY h1 b,g,j,d,h⟩
end
def qh.glo{P g}{X:List PanicEntry->St->Prop}{f args σ Q}(h:qh P (qW g) f args σ Q):qh P ⟨g,X⟩ f args σ Q :=
 ⟨h.1,fun w0 ro0 K w vs a b=>(h.2 w0 ro0 K w vs a b).mono fun e w' h=>h.imp id fun⟨_,_,_,_,_,_,h⟩=>h.elim⟩
def frz(H:List Blk):Nat->AV->AV
 |0,v=>if qE v then v else .any
 | n+1,v=>if qE v then v else match v with
  | .ptr b off=>match H[b]? with
   |some (.cells c)=>.rptr ((c.drop off).map (frz H n))
   |_=>.any
  | .ms b off len sz=>match H[b]? with
   |some (.cells c)=>if off+len*sz<=c.length/\((ww sz len (c.drop off)).map (·.map (frz H n))).all (·.all AV.atom)=true then .sl sz ((ww sz len (c.drop off)).map (·.map (frz H n))) .none else .any
   |_=>.any
  |.rptr c=>.rptr (c.map (frz H n))
  |.sl sz rows _=>if(rows.map (·.map (frz H n))).all (·.all AV.atom)=true then .sl sz (rows.map (·.map (frz H n))) .none else .any
  |.fn f a b=>.fn f (a.map (frz H n)) (b.map (frz H n))
  |.agg c=>.agg (c.map (frz H n))
  |.tup c=>.tup (c.map (frz H n))
  |_=>.any
section
variable {P:Program}{G:Nat->AV}{w0:World}{ro0:Nat->Nat->Option Value}{K:Kn}{σ:St}{w w':World}
def qq.mapRel{K K'}(d:∀b o v,K.ro b o=some v->K'.ro b o=some v){f}(e:∀a v,qi K a v->qi K' (f a) v):∀(c){B off:Nat},qq K B off c->qq K' B off (c.map f)
 |[],_,_,_=>by simp[qq]
 | a::r,B,off,h=>by
  simp only[qq,qBz]at h⊢;obtain⟨⟨v,h1,h2⟩,g⟩:=h;exact⟨⟨v,d _ _ _ h1,e a v h2⟩,qq.mapRel d e r g⟩
def qQ.mapRel{K K'}(g:∀b o v,K.ro b o=some v->K'.ro b o=some v){f}(e:∀a v,qi K a v->qi K' (f a) v):∀(c){B off sz:Nat},(c.map (·.map f)).all (·.all AV.atom)=true->qQ K B off sz c->qQ K' B off sz (c.map (·.map f))
 |[],_,_,_,_,_=>by simp[qQ]
 | a::r,B,off,sz,d,h=>by
  simp only[qQ,qBz,qCH,qBq]at h d⊢;obtain⟨⟨h1,h2,i⟩,j⟩:=h;exact⟨⟨by simpa using h1,d.1,qq.mapRel g e a i⟩,qQ.mapRel g e r d.2 j⟩
def qhO(w:World):Nat->Nat->Option Value:=fun b o=>w.cell? ⟨b,o,none⟩
def qlc(h:WRel G w0 ro0 K σ w){ro'}(F:∀b o v,K.ro b o=some v->ro' b o=some v)(M:∀B o v,w0.heap.size<=B->K.ro B o=none->w.cell? ⟨B,o,none⟩=some v->ro' B o=some v):
 ∀(n){a:AV}{v:Value},qi K a v->qi (K0 ro') (frz σ.H n a) v:=by
 have base:∀{a:AV} {v:Value},qE a=true->qi K a v->qi (K0 ro') a v:=fun s d=>(qi.toK0 _ s d).mono (qha F)
 intro n
 induction n with
 | zero=>
  intro a v d;unfold frz;split
  . rename_i s;exact base s d
  simp[qi]
 | succ n ih=>
  intro a v d;unfold frz;split
  . rename_i s;exact base s d
  cases a with
  | ptr b off=>
   simp only;split
   . rename_i c hb;simp only[qi]at d⊢;obtain⟨B,C,rfl⟩:=d;obtain⟨B',l,z,V,⟨cs,el,A,W,T,I⟩,E⟩:=h.blk b _ hb;rw[C]at l;cases l;refine⟨B,off,rfl,qF9 B _ _ fun i x e=>?_⟩;rw[qBO,qBu]at e;obtain⟨y,g,rfl⟩:=e;rw[qCm]at g;obtain⟨u,J,L⟩:=I _ _ g;refine⟨u,M _ _ _ z (E _) ?_,ih L⟩;simp only[World.cell?,A];exact J
   simp[qi]
  | ms b off len sz=>
   simp only;split
   . rename_i c hb;split
     . rename_i N;obtain⟨N,D⟩:=N;simp only[qi]at d⊢;obtain⟨B,cap,C,rfl,h1,h2⟩:=d;obtain⟨B',l,z,V,⟨cs,el,A,W,T,I⟩,E⟩:=h.blk b _ hb;rw[C]at l;cases l;obtain⟨k1,X⟩:=J1 sz len (c.drop off) (by simp;omega);refine .inr ⟨B,off,cap,by simp[k1],by simpa[k1] using h1,qGa B sz _ off fun i r e=>?_,trivial⟩;have O:=qBx.1 D r (qBl e);rw[qBO,qBu]at e;obtain⟨Q,U,rfl⟩:=e;obtain⟨g,Z⟩:=X i Q U;have P:(i+1)*sz<=len*sz:=qCz _ (by omega);rw[qCx,qEA]at P;refine⟨by rw[g];simp;omega,O,qF9 B _ _ fun j x ex=>?_⟩;rw[qBO,qBu]at ex;obtain⟨y,m,rfl⟩:=ex;rw[g,qCi]at m;split at m
       . rw[qCm,qCm]at m;obtain⟨u,J,L⟩:=I _ _ m;refine⟨u,M _ _ _ z (E _) ?_,ih L⟩;simp only[World.cell?,A];simpa[qDu] using J
       cases m
     simp[qi]
   simp[qi]
  | rptr c=>
   simp at d⊢;obtain⟨B,off,h1,h2⟩:=d;exact⟨B,off,h1,qq.mapRel F (fun a v=>ih) c h2⟩
  | sl sz rows tok=>
   simp only;split
   . rename_i D;simp only[qi]at d⊢;rcases d with⟨h1,h2,t⟩|⟨B,off,cap,h1,h2,t,h4⟩
     . subst h2;obtain⟨Y,h1,_⟩:=h1;exact .inl ⟨⟨Y,h1,.inr trivial⟩,rfl,trivial⟩
     exact .inr ⟨B,off,cap,by simpa using h1,by simpa using h2,qQ.mapRel F (fun a v=>ih) rows D t,trivial⟩
   simp[qi]
  | fn f a b=>
   simp at d⊢;obtain⟨S,R,h1,h2,t⟩:=d;exact⟨S,R,h1,qFw (fun a v=>ih) a h2,qFw (fun a v=>ih) b t⟩
  | agg c=>
   simp at d⊢;obtain⟨vs,h1,h2⟩:=d;exact⟨vs,h1,qFw (fun a v=>ih) c h2⟩
  | tup c=>
   simp at d⊢;obtain⟨vs,h1,h2⟩:=d;exact⟨vs,h1,qFw (fun a v=>ih) c h2⟩
  |_=>simp[qi]
def qsR(h:WRel G w0 ro0 K σ w)(n){a v}(c:qi K a v):qi (K0 (qhO w)) (frz σ.H n a) v :=
 qlc h (ro':=qhO w) (fun b o v e=>h.ro b o v e) (fun _ _ _ _ _ e=>e) n c
def qld(h:WRel G w0 ro0 K σ w)(n){a v}(d:qi K a v):qi (K0 (Qi w0 w K.ro)) (frz σ.H n a) v :=
 qlc h (ro':=Qi w0 w K.ro) (fun b o v e=>YS _ _ _ _ _ _ e) (fun B o v hb c e=>by simp only[Qi,c];rwa[if_pos hb]) n d
def qsU:AV->Bool
 |.bool _|.int ..|.str _|.nilp|.nilm|.nilf=>true
 |.sl _ rows tok=>rows.isEmpty&&(match tok with|.chain .. =>false|_=>true)
 |_=>false
def flat:AV->Bool
 |.agg c=>c.all qsU
 |.tup c=>c.all qsU
 |v=>qsU v
def qiJ:AV->Bool
 |.bool _|.int ..|.str _|.nilp|.nilm|.nilf=>true
 |_=>false
def qt5:AV->Bool
 |.agg c=>c.all qiJ
 |.tup c=>c.all qiJ
 |v=>qiJ v
def qdA{K K' a v}(b:qiJ a=true)(h:qi K a v):qi K' a v:=by
 cases a<;>simp only[qiJ]at b<;>first|(cases b;done)|simpa[qi] using h
def WN{K K'}:∀(l){vs:List Value},l.all qiJ=true->qj K l vs->qj K' l vs
 |[],_,_,h=>by simpa[qj] using h
 | a::r,_,b,h=>by
  simp only[qj,qCH,qBq]at h b⊢;obtain⟨v,c,h1,h2,d⟩:=h;exact⟨v,c,h1,qdA b.1 h2,WN r b.2 d⟩
def qpq{K K' a v}(b:qt5 a=true)(h:qi K a v):qi K' a v:=by
 unfold qt5 at b;split at b
 . simp only[qi]at h⊢;obtain⟨vs,h1,h2⟩:=h;exact⟨vs,h1,WN _ b h2⟩
 . simp only[qi]at h⊢;obtain⟨vs,h1,h2⟩:=h;exact⟨vs,h1,WN _ b h2⟩
 exact qdA b h
def Zj(P:Program)(G:Nat->AV)(g:FuncId)(args:List AV)(σ:St)(r:AV):Prop :=
 (qr (args.map plain)=true/\Pure P G g (args.map plain) r)\/(qt5 r=true/\Pure P G g (args.map (frz σ.H 8)) r)
def WRel.keep(a:WRel G w0 ro0 K σ w){ro'}(hb:Below w.heap.size w w')(h1:∀b o v,K.ro b o=some v->ro' b o=some v)(h2:∀b o v,ro' b o=some v->w'.cell? ⟨b,o,none⟩=some v)
 (h:∀b o v,ro' b o=some v->b<w.heap.size->K.ro b o=some v):K.le {K with ro:=ro'}/\WRel G w0 ro0 {K with ro:=ro'} σ w':=by
 have j:K.le {K with ro:=ro'}:=⟨h1,fun _ _ e=>e,qBs _,fun t C _ e=>⟨C,e,.inl rfl⟩,fun _ _ _=>rfl,fun _ _ e=>e,fun _ _ e=>e⟩;have M:=a.size_le;refine⟨j,a.below.trans (hb.mono M),fun g=>(a.glob g).mono (J8 j),h2,fun b o v e d=>a.new b o v (h b o v e (by omega)) d,?_,a.inj,a.mlt,?_,a.chd,a.chinj,a.nch,fun i B cs el fr s y=>by
  rw[hb.block B (a.m_lt s).1]at y;exact a.bsz i B cs el fr s y,fun B x e=>by
  obtain⟨z,A,I,D⟩:=a.fx B x e;exact⟨by rw[hb.block B (qCp.1 z).1];exact z,A,I,D⟩,a.rwl⟩
 . intro i b e;obtain⟨B,f,m,c,r,l⟩:=a.blk i b e;refine⟨B,f,m,qBD c hb.size,by rw[hb.block B c];exact r.mono j,fun o=>?_⟩
   cases hr:ro' B o with
   |none=>exact hr
   |some u=>have:=h B o u hr c;rw[l o]at this;cases this
 intro t k e;obtain⟨C,f,m,c,r,⟨cs,el,l,J⟩,F,E⟩:=a.ch t k e;have d:=(a.ch_lt f).1;refine⟨C,f,m,c,r,⟨cs,el,by rw[hb.block _ d];exact l,J⟩,fun o L=>?_,E⟩
 cases hr:ro' C.B o with
 |none=>exact hr
 |some u=>have:=h C.B o u hr d;rw[F o L]at this;cases this
def qu6(a:WRel G w0 ro0 K σ w){g args r}(c:Zj P G g args σ r){vs}(m:qj K args vs.toList):
 Calls P g vs w fun e w'=>∃v' K',e=.returned v'/\K.le K'/\WRel G w0 ro0 K' σ w'/\qi K' r v':=by
 rcases c with⟨s,c⟩|⟨t,c⟩
 . have f:qj (K0 K.ro) (args.map plain) vs.toList:=qj.toK0 _ s (qFw (fun _ _=>qki) _ m);refine(c.2 w K.ro vs a.glob a.ro f).mono ?_;rintro e w' ⟨v',ro',rfl,hb,h1,h2,j,i⟩;obtain⟨h,d⟩:=a.keep hb h1 h2 j;exact⟨v',{K with ro:=ro'},rfl,h,d,i.mono (qwE _)⟩
 have f:qj (K0 (qhO w)) (args.map (frz σ.H 8)) vs.toList:=qFw (fun _ _=>qsR a 8) _ m;have l:=a.ro;refine(c.2 w (qhO w) vs (fun g=>(a.glob g).mono (qha l)) (fun _ _ _ e=>e) f).mono ?_;rintro e w' ⟨v',ro',rfl,hb,h1,h2,j,i⟩;obtain⟨h,d⟩:=a.keep (ro':=K.ro) hb (fun _ _ _ e=>e) (fun b o v e=>h2 b o v (h1 b o v (l b o v e))) (fun _ _ _ e _=>e);exact⟨v',_,rfl,h,d,qpq t i⟩
def Zj.bodied{g args r}(h:Zj P G g args σ r):bodied P g=true:=by
 rcases h with h|h
 . exact h.2.1
 exact h.2.1
def Zj.acall{G:Glo}{g:FuncId}{args:List AV}{r:AV}{Q:AV->St->Prop}(h:Zj P G g args σ r)(b:Q r σ):qh P G g args σ Q :=
 ⟨h.bodied,fun w0 ro0 K w vs f d=>(qu6 f h d).mono fun e w' ⟨v',K',h1,h2,a,c⟩=>.inl ⟨v',r,σ,K',h1,h2,a,c,b⟩⟩
end
def qob:AV->AV->Option (List Bool)
 |.sl _ (_::_) _,.sl _ [] .nil=>some [false]
 |.sl _ [] .nil,.sl _ [] .nil=>some [true]
 |.sl _ [] _,.sl _ [] .nil=>some [true,false]
 |.ms ..,.sl _ [] .nil=>some [false]
 |.nilp,.nilp=>some [true]
 |.ptr ..,.nilp=>some [false]
 |.rptr _,.nilp=>some [false]
 |.nilm,.nilm=>some [true]
 |.map _,.nilm=>some [false]
 |.nilf,.nilf=>some [true]
 |.fn ..,.nilf=>some [false]
 |_,_=>none
def TD.isSl:TD->Bool|.sl _=>true|_=>false
def TD.isPtr:TD->Bool|.ptr _=>true|_=>false
def TD.isMap:TD->Bool|.map .. =>true|_=>false
def TD.isFn:TD->Bool|.fn=>true|_=>false
def TD.isSl_spec{d:TD}(h:d.isSl=true):∃e,d=.sl e:=by cases d<;>simp[TD.isSl]at h;exact⟨_,rfl⟩
def TD.isPtr_spec{d:TD}(h:d.isPtr=true):∃e,d=.ptr e:=by cases d<;>simp[TD.isPtr]at h;exact⟨_,rfl⟩
def TD.isMap_spec{d:TD}(h:d.isMap=true):∃k e,d=.map k e:=by cases d<;>simp[TD.isMap]at h;exact⟨_,_,rfl⟩
def TD.isFn_spec{d:TD}(h:d.isFn=true):d=.fn:=by cases d<;>simp[TD.isFn]at h;rfl
def JH(d:TD):AV->Bool
 |.sl .. =>d.isSl
 |.ms .. =>d.isSl
 |.nilp=>d.isPtr
 |.ptr .. =>d.isPtr
 |.rptr _=>d.isPtr
 |.nilm=>d.isMap
 |.map _=>d.isMap
 |.nilf=>d.isFn
 |.fn .. =>d.isFn
 |_=>false
def VU(D:Nat->Option TI)(neg:Bool)(t:Nat)(x y:AV)(σ:St):Option (List (AV×St)) :=
 match qob x y with
 |some l=>if JH (qP D t) x then some (l.map fun b=>(.bool (b != neg),σ)) else none
 |none=>none
def Zl(σ:St)(j:TI)(x:AV):Option (Nat×List AV) :=
 match x with
 |.sl sz rows _=>if sz=j.size\/rows=[] then some (rows.length,rows.flatten) else none
 | .ms b off len sz=>if sz=j.size then(match σ.H[b]? with
  |some (.cells c)=>(cut c off (len*sz)).map fun s=>(len,s)
  |_=>none) else none
 |_=>none
def zD(D:Nat->Option TI)(σ:St)(t u:Nat)(s x:AV):Option (AV×St) :=
 match D t with
 | some i=>match i.d with
  | .sl e=>match D e with
   | some j=>
    if 0<j.size/\j.zero.length=j.size/\j.bytes<=256 then
     match qP D u with
     | .int _=>match s,x with
      |.sl _ [] .nil,.int _ n=>if 0<n/\n<=549755813888/\j.zero.all AV.atom=true then some (.ms σ.H.length 0 n.toNat j.size,σ.push (.cells (List.replicate n.toNat j.zero).flatten)) else none
      |_,_=>none
     | .sl _=>match Zl σ j x with
      | some (n,src)=>
       if n=0 then none else
       match s with
       | .sl sz rows tok=>match tok with
        |.nil=>if rows.length+n<=549755813888 then some (.ms σ.H.length 0 (rows.length+n) j.size,σ.push (.cells (rows.flatten++src))) else none
        |.tight=>if(sz=j.size\/rows=[])/\rows.length+n<=549755813888 then some (.ms σ.H.length 0 (rows.length+n) j.size,σ.push (.cells (rows.flatten++src))) else none
        |_=>none
       | .ms b off len sz=>match σ.H[b]? with
        | some (.cells c)=>if sz=j.size/\off=0/\len+n<=549755813888/\len*sz<=c.length then
         some (.ms σ.H.length 0 (len+n) sz,{σ with H:=σ.H.set b .dead++[.cells (c.take (len*sz)++src)]})
         else none
        |_=>none
       |_=>none
      |none=>none
     |_=>none
    else none
   |none=>none
  |_=>none
 |none=>none
def qY(D:Nat->Option TI)(σ:St)(t u:Nat)(s x:AV):Option (AV×St) :=
 match zD D σ t u s x with
 |some p=>some p
 | none=>match s,x with
  | .ms b off len sz,.sl a [] tok=>(match qP D t,qP D u with
   |.sl e,.sl _=>(match D e with|some j=>some (.ms b off len sz,σ)|none=>none)
   |_,_=>none)
  |_,_=>none
def qt4(D:Nat->Option TI)(t:Nat)(x:AV):Option AV :=
 match D t with
 | some i=>match i.d,x with
  |.sl _,.sl _ [] .nil=>some (.int .i64 0)
  |_,_=>none
 |none=>none
def VY:AV->Option Nat
 |.sl _ rows _=>some rows.length
 |.ms _ _ len _=>some len
 |_=>none
def qnF(σ:St)(sz m:Nat):AV->Option (List AV)
 |.sl s rows _=>if s=sz/\m<=rows.length then some (rows.take m).flatten else none
 | .ms b off len s=>if s=sz/\m<=len then(match σ.H[b]? with
  |some (.cells c)=>cut c off (m*sz)
  |_=>none) else none
 |_=>none
def kh(D:Nat->Option TI)(σ:St)(t:Nat)(d s:AV):Option (AV×St) :=
 match D t,VY d,VY s with
 | some i,some dl,some n=>match i.d with
  | .sl e=>match D e with
   | some j=>
    if min n dl=0 then some (.int .i64 0,σ) else
    match d with
    | .ms b off len sz=>if sz=j.size then(match qnF σ sz (min n len) s,σ.H[b]? with
     |some src,some (.cells c)=>if off+min n len*sz<=c.length then some (.int .i64 (min n len:Nat),{σ with H:=σ.H.set b (.cells (zC c off src))}) else none
     |_,_=>none) else none
    |_=>none
   |none=>none
  |_=>none
 |_,_,_=>none
def mkX(D:Nat->Option TI)(mu:Bool)(σ:St)(t:Nat)(l c:AV):Option (List (AV×St)) :=
 match mu,l,c with
 | true,.int _ 0,.int _ 0=>(match qz D σ t l c with
  |some (.sl sz [] _,σ')=>some [(.sl sz [] .tight,σ')]
  |_=>none)
 |_,_,_=>none
@[simp]def qkI{D σ t l c}:mkX D false σ t l c=none:=by unfold mkX;rfl
def qck(D:Nat->Option TI)(G:Nat->AV)(mu:Bool)(env:Env)(σ:St):Op->Option (List (AV×St))
 |.makeSlice t l c=>mkX D mu σ t (ev G env l) (ev G env c)
 | .binOp o t x y _=>match o with
  |.eql=>VU D false t (ev G env x) (ev G env y) σ
  |.neq=>VU D true t (ev G env x) (ev G env y) σ
  |_=>none
 | .call {callee:=.builtin b,args:=args,argTypes:=a}=>match b,a.toList,args.toList with
  | .append,[t,u],[s,x]=>match mu with
   |true=>(qY D σ t u (ev G env s) (ev G env x)).map fun p=>[p]
   |false=>none
  |.cap,[t],[x]=>(qt4 D t (ev G env x)).map fun v=>[(v,σ)]
  |.copy,[t,_],[d,s]=>(kh D σ t (ev G env d) (ev G env s)).map fun p=>[p]
  |_,_,_=>none
 |_=>none
section
variable {P:Program}{G:Nat->AV}{w0:World}{ro0:Nat->Nat->Option Value}{K:Kn}{σ:St}{w w':World}{N:Nat}{env:Env}{a:Act}
def jH{t d}(h:qP (Dof P) t=d)(hd:d≠.other):∃d',P.underlying t=some d'/\QK P d'=d:=by
 unfold qP at h;split at h
 . rename_i i b;obtain⟨inf,d',z,hi,a,_,rfl⟩:=qH b;exact⟨d',a,h⟩
 exact absurd h.symm hd
def qux{d:TypeDesc}{e}(h:QK P d=.ptr e):d=.pointer e:=by
 cases d<;>simp[QK]at h
 . exact h▸rfl
 split at h<;>cases h
def qyk{d:TypeDesc}(h:QK P d=.fn):∃a b c,d=.func a b c:=by
 cases d<;>simp only[QK]at h<;>first|exact⟨_,_,_,rfl⟩|(cases h;done)|(split at h<;>cases h)
def Y5{t e:Nat}(a:P.underlying t=some (.slice e))(bx:Option Addr)(n c:Nat):(Op.equal t (.slice bx n c) (.slice none 0 0)).run P w=.ok bx.isNone w:=by
 show(Op.equalIn (9999+1) t _ _).run P w=_;rw[Op.equalIn];simp only[Sem.run_bind,run_underlying a,Result.andThen_ok];cases bx<;>rfl
def qlr{t e:Nat}(a:P.underlying t=some (.pointer e))(bx:Option Addr):(Op.equal t (.pointer bx) (.pointer none)).run P w=.ok bx.isNone w:=by
 show(Op.equalIn (9999+1) t _ _).run P w=_;rw[Op.equalIn];simp only[Sem.run_bind,run_underlying a,Result.andThen_ok];cases bx<;>rfl
def qqv{t k e:Nat}(a:P.underlying t=some (.map k e))(bx:Option Nat):(Op.equal t (.map bx) (.map none)).run P w=.ok bx.isNone w:=by
 show(Op.equalIn (9999+1) t _ _).run P w=_;rw[Op.equalIn];simp only[Sem.run_bind,run_underlying a,Result.andThen_ok];cases bx<;>rfl
def qv9{t:Nat}{a b:Array TypeId}{c:Bool}(d:P.underlying t=some (.func a b c)):(Op.equal t .nilFunc .nilFunc).run P w=.ok true w:=by
 show(Op.equalIn (9999+1) t _ _).run P w=_;rw[Op.equalIn];simp only[Sem.run_bind,run_underlying d,Result.andThen_ok];rfl
def qv8{t:Nat}{a b:Array TypeId}{c:Bool}(d:P.underlying t=some (.func a b c))(f:Fn)(x y:Array Value):(Op.equal t (.func f x y) .nilFunc).run P w=.ok false w:=by
 show(Op.equalIn (9999+1) t _ _).run P w=_;rw[Op.equalIn];simp only[Sem.run_bind,run_underlying d,Result.andThen_ok];rfl
def qzG:Value->Bool
 |.slice .. =>true
 |.pointer _=>true
 |.map _=>true
 |.nilFunc=>true
 |.func .. =>true
 |_=>false
def qh2{t x y l x' y'}(f:qi K x x')(g:qi K y y')(o:qob x y=some l)(j:JH (qP (Dof P) t) x=true):
 ∃b∈l,(Op.equal t x' y').run P w=.ok b w/\qzG x'=true:=by
 have s:∀{sz:Nat},qi K (.sl sz [] .nil) y'->y'=.slice none 0 0:=by
  intro sz h;simp only[qi]at h;rcases h with⟨⟨G,h1,z⟩,_⟩|⟨B,off,cap,h1,h2,I,v⟩
  . rw[h1,z.resolve_right (by simp)]
  simp[wo]at v
 have r:(qP (Dof P) t).isSl=true->∃e,P.underlying t=some (.slice e):=by
  intro i;obtain⟨e,i⟩:=TD.isSl_spec i;obtain⟨d',d,m⟩:=jH i (by simp);exact⟨e,by rw[d,Zd m]⟩
 have u:(qP (Dof P) t).isPtr=true->∃e,P.underlying t=some (.pointer e):=by
  intro i;obtain⟨e,i⟩:=TD.isPtr_spec i;obtain⟨d',d,m⟩:=jH i (by simp);exact⟨e,by rw[d,qux m]⟩
 have F:(qP (Dof P) t).isMap=true->∃k e,P.underlying t=some (.map k e):=by
  intro i;obtain⟨k,e,i⟩:=TD.isMap_spec i;obtain⟨d',d,m⟩:=jH i (by simp);exact⟨k,e,by rw[d,qb4 m]⟩
 have D:(qP (Dof P) t).isFn=true->∃a b c,P.underlying t=some (.func a b c):=by
  intro i;obtain⟨d',d,m⟩:=jH (TD.isFn_spec i) (by simp);obtain⟨a,b,c,rfl⟩:=qyk m;exact⟨a,b,c,d⟩
 have A:∀{sz rows tok},qi K (.sl sz rows tok) x'->∃bx n c,x'=.slice bx n c/\(rows≠[]->bx.isNone=false)/\(tok=.nil->bx=none):=by
  intro sz rows tok h;simp only[qi]at h;rcases h with⟨⟨G,h1,z⟩,h2,_⟩|⟨B,off,cap,h1,h2,I,v⟩
  . exact⟨G,0,0,h1,fun J=>absurd h2 J,fun C=>z.resolve_right (by rw[C];simp)⟩
  exact⟨_,_,_,h1,fun _=>rfl,fun C=>by subst C;simp[wo]at v⟩
 unfold qob at o;split at o
 case h_12=>cases o
 all_goals cases o
 all_goals simp only[JH]at j
 . obtain⟨e,d⟩:=r j;have:=s g;subst this;obtain⟨bx,n,c,rfl,h1,h2⟩:=A f;exact⟨false,by simp,by rw[Y5 d,h1 (by simp)],rfl⟩
 . obtain⟨e,d⟩:=r j;have:=s g;subst this;obtain⟨bx,n,c,rfl,h1,h2⟩:=A f;exact⟨true,by simp,by rw[Y5 d,h2 rfl];rfl,rfl⟩
 . obtain⟨e,d⟩:=r j;have:=s g;subst this;obtain⟨bx,n,c,rfl,h1,h2⟩:=A f;exact⟨bx.isNone,by cases bx<;>simp,Y5 d _ _ _,rfl⟩
 . obtain⟨e,d⟩:=r j;have:=s g;subst this;simp only[qi]at f;obtain⟨B,cap,E,rfl,_⟩:=f;exact⟨false,by simp,by rw[Y5 d];rfl,rfl⟩
 . obtain⟨e,d⟩:=u j;simp only[qi]at f g;subst f;subst g;exact⟨true,by simp,by rw[qlr d];rfl,rfl⟩
 . obtain⟨e,d⟩:=u j;simp only[qi]at f g;obtain⟨B,E,rfl⟩:=f;subst g;exact⟨false,by simp,by rw[qlr d];rfl,rfl⟩
 . obtain⟨e,d⟩:=u j;simp only[qi]at f g;obtain⟨B,off,rfl,_⟩:=f;subst g;exact⟨false,by simp,by rw[qlr d];rfl,rfl⟩
 . obtain⟨k,e,d⟩:=F j;simp only[qi]at f g;subst f;subst g;exact⟨true,by simp,by rw[qqv d];rfl,rfl⟩
 . obtain⟨k,e,d⟩:=F j;simp only[qi]at f g;obtain⟨B,E,rfl⟩:=f;subst g;exact⟨false,by simp,by rw[qqv d];rfl,rfl⟩
 . obtain⟨L,M,N,d⟩:=D j;simp only[qi]at f g;subst f;subst g;exact⟨true,by simp,qv9 d,rfl⟩
 obtain⟨L,M,N,d⟩:=D j;simp only[qi]at f g;obtain⟨Q,O,rfl,_,_⟩:=f;subst g;exact⟨false,by simp,qv8 d _ _ _,rfl⟩
def Yj(h:WRel G w0 ro0 K σ w){t x y l x' y'}(c:qi K x x')(f:qi K y y'){neg}(a:VU (Dof P) neg t x y σ=some l)(i d):
 ∃v σ',(v,σ')∈l/\σ'=σ/\∃v',(do eqGuard (if neg then .neq else .eql) t i d x' y';binOp (if neg then .neq else .eql) t x' y':Sem Value).run P w=.ok v' w/\qi K v v':=by
 unfold VU at a;split at a
 . rename_i bs g;split at a
   . rename_i e;simp only[qBI]at a;subst a;obtain⟨b,hb,j,h1⟩:=qh2 (w:=w) c f g e;refine⟨.bool (b != neg),σ,qBH.2 ⟨b,hb,rfl⟩,rfl,.bool (b != neg),?_,by simp[qi]⟩;cases neg<;>cases x'<;>simp only[qzG]at h1<;>first|(cases h1;done)|skip
     all_goals
      simp only[qBP,if_false,if_true];rw[Sem.run_bind];simp only[eqGuard,pure];simp[binOp,j]
   cases a
 cases a
end
section
variable {P:Program}{G:Nat->AV}{w0:World}{ro0:Nat->Nat->Option Value}{K:Kn}{σ:St}{w w':World}{N:Nat}{env:Env}{a:Act}
def JE(t h ty e el)(i:TypeInfo)(r:P.underlying t=some (.slice e))(hi:P.info? e=some i)(b a f c)(l:w.heap[b]?=some (.cells c el (0,0)))
 (x n news) (d:Src P i.size h x n news w) (o:a+n<=f) (m:a*i.size+news.length<=c.size):
 (Builtin.append_ #[t,h] ty #[.slice (some ⟨b,0,none⟩) a f,x]).run P w=.ok (.slice (some ⟨b,0,none⟩) (a+n) f)
   (w.setRow b (c.toList.take (a*i.size)++news++c.toList.drop (a*i.size+news.length)).toArray):=by
 have j:=run_storeCells_at P b (a*i.size) el news 0 c w l (by simpa using m) d.one;simp only[qCV]at j;rcases d.kind with⟨s,g⟩|g<;>simp[Builtin.append_,run_underlying r,run_underlying g,sizeOf,typeInfo,hi,d.len,o,d.cells,Addr.add_lit,j]
def qjF(h:WRel G w0 ro0 K σ w){j:TI}{x:AV}{x':Value}(d:qi K x x'){n:Nat}{src:List AV}(a:Zl σ j x=some (n,src))(Q:n≠0){u O:Nat}(t:P.underlying u=some (.slice O)){size:Nat}(E:j.size=size):
 ∃news,qj K src news/\src.all AV.atom=true/\Src P size u x' n news w/\src.length=n*size:=by
 unfold Zl at a;split at a
 . rename_i sz rows tok;split at a
   . rename_i L;simp only[qBI,qBK]at a;obtain⟨rfl,rfl⟩:=a;have y:rows≠[]:=fun e=>Q (by simp[e])
     have m:sz=size:=(L.resolve_right y).trans E;subst m;simp only[qi]at d;rcases d with⟨_,h2,_⟩|⟨B,off,cap,rfl,I,F,_⟩
     . exact absurd h2 y
     obtain⟨vs,l,i,A,z,g⟩:=wU h F;exact⟨vs,l,z,Src.ofSlice w t _ _ _ vs i A g,by rw[<- l.length,i]⟩
   cases a
 . rename_i b off len sz;split at a
   . rename_i N;have m:sz=size:=N.trans E;subst m;split at a
     . rename_i c hb;obtain⟨s,f,r⟩:=qBu.1 a;simp only[qBK]at r;obtain⟨rfl,rfl⟩:=r;unfold cut at f;split at f
       . rename_i J;simp only[qBI]at f;subst f;simp only[qi]at d;obtain⟨B,cap,M,rfl,I,S,V⟩:=d;obtain⟨vs,o,R⟩:=qiR.of_blk h hb M off (len*sz) J;obtain⟨B',l,i,A,⟨cs,el,z,g,W,T⟩,U⟩:=h.blk b _ hb;have D:((c.drop off).take (len*sz)).all AV.atom=true:=by
          rw[qBx]at g⊢;exact fun x d=>g x (qCD (qB6 d))
         have C:((c.drop off).take (len*sz)).length=len*sz:=(by simp;omega);exact⟨vs,o,D,Src.ofSlice w t _ _ _ vs (by rw[o.length,C]) (fun j v e=>by rw[jz];exact R j v e) (o.oneCells D),C⟩
       cases f
     cases a
   cases a
 cases a
def WRel.again(h:WRel G w0 ro0 K σ w){b B c b'}(hb:σ.H[b]?=some (.cells c))(v:K.m b=some B)(I:w'.os=w.os)(L:w'.tape=w.tape)(J:w'.output=w.output)
 (S:w'.heap.size=w.heap.size) (P:∀k,k≠B->w'.heap[k]?=w.heap[k]?) (N:yv K b' w'.heap[B]?) (Q:∀cs el fr,w'.heap[B]?=some (.cells cs el fr)->cs.size=K.bs b)
 (O:∀cs el fr,w'.heap[B]?=some (.cells cs el fr)->∃F M R,w.heap[B]?=some (.cells F M R)):
 K.le (K.addM σ.H.length B (K.bs b))/\WRel G w0 ro0 (K.addM σ.H.length B (K.bs b)) {σ with H:=σ.H.set b .dead++[b']} w':=by
 have D:b<σ.H.length:=(qBk.1 hb).1;have y:=qFT h B (K.bs b);have h1:=h.setBlk (b':=.dead) D v I L J S P (by simp[yv]) (by rw[hb];simp) Q O;have W:(σ.H.set b .dead).length=σ.H.length:=by simp
 have alone:∀i,K.m i=some B->(σ.H.set b Blk.dead)[i]?=some Blk.dead:=by
  intro i hi;by_cases A:i=b
  . subst A;simp[D]
  rw[qBn (Ne.symm A)];rcases h.inj i b B hi v with h2|h2|h2
  . exact absurd h2 A
  . exact h2
  rw[hb]at h2;cases h2
 refine⟨y,⟨h1.below,fun g=>(h1.glob g).mono (J8 y),h1.ro,h1.new,?_,?_,?_,?_,h1.chd,h1.chinj,?_,?_,?_,?_⟩⟩
 . intro i b2 e;simp only[qCn]at e;split at e
   . rename_i hi;obtain⟨f,o,r,s,u,z⟩:=h1.blk i b2 e;exact⟨f,y.m _ _ o,r,s,u.mono y,z⟩
   rename_i hi;have U:i=σ.H.length:=by
    rcases qET (i-(σ.H.set b .dead).length) 1 with h2|h2
    . omega
    simp[qBW (l:=[b']) (by simpa using h2)]at e
   subst U;simp at e;subst e;obtain⟨V,o,r,s,u,z⟩:=h.blk b _ hb;rw[v]at o;cases o;exact⟨B,by simp[Kn.addM],r,by omega,N.mono y,z⟩
 . intro i j f d a;simp only[Kn.addM]at d a;have left:∀{i},(σ.H.set b Blk.dead)[i]?=some Blk.dead->(σ.H.set b Blk.dead++[b'])[i]?=some Blk.dead:=fun {i} hi=>by
    rw[qBv (qBk.1 hi).1];exact hi
   split at d<;>split at a
   . left;omega
   . simp at d;subst d;exact .inr (.inr (left (alone j a)))
   . simp at a;subst a;exact .inr (.inl (left (alone i d)))
   exact(h1.inj i j f d a).imp_right (Or.imp left left)
 . intro i f e;simp only[Kn.addM]at e;simp only[qBp,qCO,qBR];split at e
   . omega
   have:=h.mlt i f e;omega
 . intro t k e;obtain⟨C,o,r,s,u,z,T,E⟩:=h1.ch t k e;refine⟨C,o,r,s,u,z,T,fun i a=>?_⟩;simp only[Kn.addM]at a;split at a
   . simp at a;exact E b (by rw[v,a])
   exact E i a
 . exact h1.nch
 . intro i f cs el fr d a;simp only[Kn.addM]at d⊢;split at d
   . rename_i hi;simp at d;subst d;simp[hi];exact h1.bsz b B cs el fr v a
   rename_i hi;simp only[hi,if_false];exact h1.bsz i f cs el fr d a
 . intro f x e;obtain⟨o,r,s,u⟩:=h1.fx f x e;refine⟨o,r,fun i a=>?_,u⟩;simp only[Kn.addM]at a;split at a
   . simp at a;exact s b (by rw[v,a])
   exact s i a
 intro n x e;have:=h.rwl n x e;simp only[qBp,qCO,qBR];omega
def qaY(h:WRel G w0 ro0 K σ w){b:List AV}{vs:List Value}(j:qj K b vs)(t:b.all AV.atom=true){z:Array Value}{len cap sz e:Nat}(s:z.size=sz)(u:0<sz)(d:vs.length=len*sz)(f:len<=cap)(h0:0<len):
 ∃K',K.le K'/\WRel G w0 ro0 K' (σ.push (.cells b)) (w.alloc (.cells (vs.toArray++Builtin.zeroCells z (cap-len)) e))/\qi K' (.ms σ.H.length 0 len sz) (.slice (some ⟨w.heap.size,0,none⟩) len cap):=by
 have g:(vs.toArray++Builtin.zeroCells z (cap-len)).size=cap*sz:=by
  simp only[Array.size_append,qDW,size_zeroCells,s,d,<- qCx];congr 1;omega
 refine⟨_,qFT h _ _,h.push (o:=.cells (vs.toArray++Builtin.zeroCells z (cap-len)) e) ⟨_,e,rfl,t,?_,fun i a l=>?_⟩,?_⟩
 . rw[g,<- j.length,d];exact qCz _ f
 . obtain⟨v,c,m⟩:=j.get i a l;have r:i<vs.length:=(qBk.1 c).1;exact⟨v,by rw[qD4 (by simpa using r)];simpa using c,m⟩
 simp only[qi];exact⟨w.heap.size,cap,by simp[Kn.addM],rfl,f,by omega,by simp only[Kn.addM,if_true,yc,g];omega⟩
def qbw(h:WRel G w0 ro0 K σ w){t u:Nat}{s x v:AV}{Q x':Value}(F:qi K s Q)(L:qi K x x')(ty:Nat){σ':St}(f:zD (Dof P) σ t u s x=some (v,σ')):
 Ran P G w0 ro0 K w (Builtin.append_ #[t,u] ty #[Q,x']) v σ':=by
 unfold zD at f;split at f
 case h_2=>cases f
 rename_i i hD;obtain⟨inf,d,z,hi,X,_,rfl⟩:=qH hD;simp only at f;split at f
 case h_2=>cases f
 rename_i e hd;have c5:=Zd hd;subst c5;split at f
 case h_2=>cases f
 rename_i j hj;obtain⟨g,d2,y,T,e4,a6,rfl⟩:=qH hj;simp only at f;split at f
 case isFalse=>cases f
 rename_i hc;obtain⟨S,b6,c7⟩:=hc;have O:y.cells.size=g.size:=by simpa using b6
 have bound:∀m:Nat,m<=549755813888->m*g.bytes<=140737488355328:=fun m D=>by
  calc m*g.bytes<=549755813888*256:=qDx D c7
   _<=140737488355328:=by omega
 split at f
 . -- zeros
   rename_i kn d6;obtain⟨du,a8,a3⟩:=jH d6 (by simp);have:=Yc a3;subst this;split at f
   case h_2=>cases f
   rename_i d9 k n;split at f
   case isFalse=>cases f
   rename_i hn;obtain⟨n0,n1,M⟩:=hn;simp only[qBI,qBK]at f;obtain⟨rfl,rfl⟩:=f;simp only[qi]at L;subst L;have a7:Q=.slice none 0 0:=by
    simp only[qi]at F;rcases F with⟨⟨a0,c1,R⟩,_⟩|⟨B,off,cap,g1,g2,g3,A⟩
    . rw[c1,R.resolve_right (by simp)]
    simp[wo]at A
   subst a7;obtain⟨m,rfl⟩:=qBG (qEV n0);have b1:0<m:=(by omega);have c6:m<=549755813888:=(by omega);have E:=Lib.run_append_nil_zeros (P:=P) w t u ty e g y k kn X a8 T a6 m b1 S (by omega) (by have:=bound m c6;omega);have J:=grownCap_ge w m 0 e;have d3:=Kd (K:=K) (z:=y) (n:=m) (by omega);have d0:((Array.range (m*y.cells.size)).map (y.cells[· % y.cells.size]!)).toList.length=m*g.size:=(by simp[O]);obtain⟨K',k1,C,k3⟩:=qaY (e:=e) h.drew d3 (by
    rw[qBx];intro x L;obtain⟨l,d7,b0⟩:=qB3.1 L;rw[(qDc.1 d7).2]at b0;rw[qBx]at M;exact M x b0) O S d0 J b1
   refine⟨_,_,K',E,k1,?_,?_⟩
   . simp only[qDp]at C;exact C
   simpa using k3
 . -- a slice
   rename_i eu d5;obtain⟨du,a8,a3⟩:=jH d5 (by simp);have:=Zd a3;subst this;split at f
   case h_2=>cases f
   rename_i n src c0;split at f
   . cases f
   rename_i hn;obtain⟨news,n1,M,n3,n4⟩:=qjF (P:=P) (u:=u) (size:=g.size) h L c0 hn a8 rfl;have N:news.length=n*g.size:=n3.newsLen;have b5:∀(total:Nat),total=n->n<=549755813888->Q=.slice none 0 0->Ran P G w0 ro0 K w (Builtin.append_ #[t,u] ty #[Q,x']) (.ms σ.H.length 0 total g.size) (σ.push (.cells src)):=by
    intro total ht hb a7;subst ht;subst a7;have E:=run_append_grow_src (P:=P) w t u ty e g y X T a6 none 0 0 [] (by simpa using run_firstCells_none (P:=P) w.drew g.size 0 0 0) x' total news n3 (by omega) (by omega) (growslice_fits (by omega) (by have:=bound total hb;simpa using this));have J:=grownCap_ge w total 0 e;obtain⟨K',k1,C,k3⟩:=qaY (e:=e) h.drew n1 M O S N J (by omega);simp only[qDb,qBL]at E;exact⟨_,_,K',E,k1,C,by simpa using k3⟩
   have qeN:∀(rows:Nat) (a1:List AV) (o:List Value) (base:Addr),qj K a1 o->a1.all AV.atom=true->o.length=rows*g.size->(∀j v,o[j]?=some v->w.cell? (base.add j)=some v)->rows+n<=549755813888->∀cap,cap<rows+n ->
    ∃ K',K.le K'/\WRel G w0 ro0 K' (σ.push (.cells (a1++src))) (w.drew.alloc (.cells ((o++news).toArray++Builtin.zeroCells y.cells (grownCap w (rows+n) cap e-(rows+n))) e)) /\
     qi K' (.ms σ.H.length 0 (rows+n) g.size) (.slice (some ⟨w.heap.size,0,none⟩) (rows+n) (grownCap w (rows+n) cap e)) /\
     (Builtin.append_ #[t,u] ty #[.slice (some base) rows cap,x']).run P w=.ok (.slice (some ⟨w.heap.size,0,none⟩) (rows+n) (grownCap w (rows+n) cap e))
       (w.drew.alloc (.cells ((o++news).toArray++Builtin.zeroCells y.cells (grownCap w (rows+n) cap e-(rows+n))) e)):=by
    intro rows a1 o base o1 U o3 o4 hb cap a2;have E:=run_append_grow_src (P:=P) w t u ty e g y X T a6 (some base) rows cap o (run_firstCells_some w.drew g.size rows base rows cap o o3 (by simpa using o4)) x' n news n3 a2 (by omega) (growslice_fits (by omega) (bound _ hb));have J:=grownCap_ge w (rows+n) cap e;obtain⟨K',k1,C,k3⟩:=qaY (e:=e) h.drew (o1.append n1) (by rw[qCU,U,M];rfl) O S (by rw[qBp,o3,N,qCx]) J (by omega);exact⟨K',k1,C,by simpa using k3,E⟩
   split at f
   . rename_i sz rows tok;split at f
     . -- nil
       split at f
       case isFalse=>cases f
       rename_i hb;simp only[qBI,qBK]at f;obtain⟨rfl,rfl⟩:=f;simp only[qi]at F;rcases F with⟨⟨a0,h1,R⟩,rfl,_⟩|⟨B,off,cap,g1,g2,g3,A⟩
       . rw[R.resolve_right (by simp)]at h1;simpa using b5 (0+n) (by omega) (by simpa using hb) h1
       simp[wo]at A
     . -- no spare room
       split at f
       case isFalse=>cases f
       rename_i hb;obtain⟨b7,hb⟩:=hb;simp only[qBI,qBK]at f;obtain⟨rfl,rfl⟩:=f;simp only[qi]at F;rcases F with⟨⟨a0,h1,R⟩,rfl,_⟩|⟨B,off,cap,rfl,a2,d4,b4⟩
       . rw[R.resolve_right (by simp)]at h1;simpa using b5 (0+n) (by omega) (by simpa using hb) h1
       simp only[wo]at b4;subst b4;obtain⟨o,o1,U,o3,o4,o5⟩:=wU h d4;have c2:o.length=rows.length*g.size:=by
        rcases b7 with rfl|c9
        . exact U
        subst c9;simpa using U
       obtain⟨K',k1,C,k3,k4⟩:=qeN rows.length rows.flatten o ⟨B,off,none⟩ o1 o4 c2 o3 hb rows.length (by omega);exact⟨_,_,K',k4,k1,C,k3⟩
     cases f
   . rename_i b off len sz;split at f
     case h_2=>cases f
     rename_i c hb;split at f
     case isFalse=>cases f
     rename_i c4;obtain⟨rfl,rfl,b9,e3⟩:=c4;simp only[qBI,qBK]at f;obtain⟨rfl,rfl⟩:=f;simp only[qi]at F;obtain⟨B,cap,D,rfl,a2,c3,e0⟩:=F;obtain⟨B',g1,g2,g3,⟨cs,el,A,g5,g6,g7⟩,g8⟩:=h.blk b _ hb;rw[D]at g1;cases g1;have b2:cs.size=K.bs b:=h.bsz b B cs el _ D A;obtain⟨o,W,l2⟩:=qiR.of_blk h hb D 0 (len*g.size) (by omega);simp only[qCG,qDb]at W l2;have a4:(c.take (len*g.size)).all AV.atom=true:=by
      rw[qBx]at g5⊢;exact fun x L=>g5 x (qB6 L)
     have ol:o.length=len*g.size:=(by rw[W.length];simp;omega);by_cases a9:len+n<=cap
     . have c8:(len+n)*g.size<=cap*g.size:=qCz _ a9;rw[qCx]at c8;have E:=JE (P:=P) (w:=w) t u ty e el g X T B len cap cs A x' n news n3 a9 (by rw[N,b2];omega);have b8:yv K (.cells (c.take (len*g.size)++src)) (w.setRow B (cs.toList.take (len*g.size)++news++cs.toList.drop (len*g.size+news.length)).toArray).heap[B]?:=by
        refine⟨_,el,setRow_heap w B cs _ el _ A,by rw[qCU,a4,M];rfl,?_,fun i a I=>?_⟩
        . simp[n4,N];omega
        rw[qCn]at I;simp only[qDC];split at I
        . rename_i a5;simp only[qBY]at a5;rw[qCi]at I;split at I
          . obtain⟨v,e1,r⟩:=g7 i a I;refine⟨v,?_,r⟩;rw[qBX,qBv (by simp;omega),qCi,if_pos (by omega)];simpa using e1
          cases I
        rename_i a5;simp only[qBY]at a5 I;obtain⟨v,e1,r⟩:=n1.get _ _ I;refine⟨v,?_,r⟩;have d8:=(qBk.1 e1).1;rw[qBX,qBt (by simp;omega),qBv (by simp;omega)];simp only[qBY,qCW];rw[show min (len*g.size) cs.size=min (len*g.size) c.length by omega];exact e1
       obtain⟨q1,q2⟩:=h.again (b':=.cells (c.take (len*g.size)++src)) hb D (w':=w.setRow B (cs.toList.take (len*g.size)++news++cs.toList.drop (len*g.size+news.length)).toArray) rfl rfl rfl (by simp[World.setRow]) (fun k hk=>setRow_other w B k _ hk) b8
        (fun Y V Z r=>by
          rw[setRow_heap w B cs _ el _ A]at r;cases r;rw[<- b2];simp[N];omega) (fun _ _ _ _=>⟨cs,el,_,A⟩)
       refine⟨_,_,_,E,q1,q2,?_⟩;simp only[qi];exact⟨B,cap,by simp[Kn.addM],rfl,a9,c3,by simp only[Kn.addM,if_true];omega⟩
     obtain⟨K',k1,C,k3,k4⟩:=qeN len (c.take (len*g.size)) o ⟨B,0,none⟩ W a4 ol (fun j v e=>by rw[jz];simpa using l2 j v e) b9 cap (by omega);have d1:b<σ.H.length:=(qBk.1 hb).1;have hd:=h.drew.setBlk (w':=w.drew) (b':=.dead) d1 D rfl rfl rfl rfl (fun _ _=>rfl) (by simp[yv]) (by rw[hb];simp) (fun Y V Z r=>h.drew.bsz b B Y V Z D r) (fun Y V Z r=>⟨Y,V,Z,r⟩);have J:=grownCap_ge w (len+n) cap e;obtain⟨K2,j1,j2,j3⟩:=qaY (e:=e) hd (W.append n1) (by rw[qCU,a4,M];rfl) O S (by rw[qBp,ol,N,qCx]) J (by omega);refine⟨_,_,K2,k4,j1,?_,?_⟩
     . simpa[St.push] using j2
     simpa using j3
   cases f
 cases f
def qbv(h:WRel G w0 ro0 K σ w){t u:Nat}{s x v:AV}{d x':Value}(c:qi K s d)(f:qi K x x')(ty:Nat){σ':St}(a:qY (Dof P) σ t u s x=some (v,σ')):
 Ran P G w0 ro0 K w (Builtin.append_ #[t,u] ty #[d,x']) v σ':=by
 unfold qY at a;split at a
 . rename_i p F;simp only[qBI]at a;subst a;exact qbw h c f ty F
 split at a
 case h_2=>cases a
 rename_i b off len sz M tok;split at a
 case h_2=>cases a
 rename_i e V i A;split at a
 case h_2=>cases a
 rename_i j m;simp only[qBI,qBK]at a;obtain⟨rfl,rfl⟩:=a;obtain⟨O,z,l⟩:=jH i (by simp);have:=Zd l;subst this;obtain⟨J,o,I⟩:=jH A (by simp);have:=Zd I;subst this;obtain⟨E,L,S,y,Y,W,rfl⟩:=qH m;refine qF0 h (v':=d) ?_ c;have D:∃bx g,x'=.slice bx 0 g:=by
  simp only[qi]at f;rcases f with⟨⟨X,rfl,_⟩,_⟩|⟨T,R,Z,rfl,_⟩
  . exact⟨_,_,rfl⟩
  exact⟨_,_,rfl⟩
 obtain⟨bx,g,rfl⟩:=D;have C:(Builtin.firstCells E.size 0 (.slice bx 0 g)).run P w=.ok #[] w:=by
  cases bx<;>simp[Builtin.firstCells,loadCells,loadCellsFrom]
 simp only[qi]at c;obtain⟨B,cap,Q,rfl,r,N,U⟩:=c;simp[Builtin.append_,run_underlying z,run_underlying o,sizeOf,typeInfo,y,Builtin.lenOf,r,C,storeCells]
def qlX(h:WRel G w0 ro0 K σ w){t:Nat}{x v:AV}{x':Value}(b:qi K x x')(ty:Nat)(a:qt4 (Dof P) t x=some v):∃v',(Builtin.cap_ #[t] ty #[x']).run P w=.ok v' w/\qi K v v':=by
 unfold qt4 at a;split at a
 case h_2=>cases a
 rename_i i j;obtain⟨inf,d,z,hi,f,_,rfl⟩:=qH j;simp only at a;split at a
 . rename_i e sz hd;have:=Zd hd;subst this;cases a;simp only[qi]at b;rcases b with⟨⟨m,rfl,g⟩,_⟩|⟨B,off,cap,r,o,l,c⟩
   . obtain rfl:=g.resolve_right (by simp);exact⟨goInt 0,by simp[Builtin.cap_,run_underlying f],by simp[qi,goInt]⟩
   simp[wo]at c
 cases a
def qkd(h:WRel G w0 ro0 K σ w){sz m x x'}(d:qi K x x'){src}(a:qnF σ sz m x=some src)(I:m≠0):
 ∃news,qj K src news/\src.all AV.atom=true/\(Builtin.firstCells sz m x').run P w=.ok news.toArray w/\src.length=m*sz:=by
 unfold qnF at a;split at a
 . rename_i s rows tok;split at a
   case isFalse=>cases a
   rename_i o;obtain⟨rfl,g⟩:=o;simp only[qBI]at a;subst a;simp only[qi]at d;rcases d with⟨_,h2,_⟩|⟨B,off,cap,rfl,C,A,_⟩
   . subst h2;simp only[qCc,Nat.le_zero]at g;exact absurd g I
   have y:=A.sub 0 m;simp only[qDa,qCV,qCG]at y;obtain⟨vs,i,f,u,t,r⟩:=wU h y;have l:(rows.take m).length=m:=(by simp;omega);rw[l]at f;exact⟨vs,i,t,run_firstCells_some w s m _ _ _ vs f u,by rw[<- f,i.length]⟩
 . rename_i b off len s;split at a
   case isFalse=>cases a
   rename_i o;obtain⟨rfl,g⟩:=o;split at a
   . rename_i c hb;unfold cut at a;split at a
     . rename_i l;simp only[qBI]at a;subst a;simp only[qi]at d;obtain⟨B,cap,D,rfl,C,L,O⟩:=d;obtain⟨vs,z,J⟩:=qiR.of_blk h hb D off (m*s) l;obtain⟨B',i,f,u,⟨cs,el,t,r,Q,M⟩,N⟩:=h.blk b _ hb;have F:((c.drop off).take (m*s)).all AV.atom=true:=by
        rw[qBx]at r⊢;exact fun x d=>r x (qCD (qB6 d))
       have E:((c.drop off).take (m*s)).length=m*s:=(by simp;omega);exact⟨vs,z,F,run_firstCells_some w s m _ _ _ vs (by have:=z.length;omega) (fun j v e=>by rw[jz];exact J j v e),E⟩
     cases a
   cases a
 cases a
def qgr{x x'}(c:qi K x x'){n}(a:VY x=some n):∃b cap,x'=.slice b n cap:=by
 unfold VY at a;split at a
 . rename_i sz rows tok;cases a;simp only[qi]at c;rcases c with⟨⟨d,rfl,_⟩,rfl,_⟩|⟨B,off,cap,rfl,_⟩
   . exact⟨_,_,rfl⟩
   exact⟨_,_,rfl⟩
 . cases a;simp only[qi]at c;obtain⟨B,cap,e,rfl,_⟩:=c;exact⟨_,_,rfl⟩
 cases a
def qiw(h:WRel G w0 ro0 K σ w){t u:Nat}{d s v:AV}{d' C:Value}(hd:qi K d d')(L:qi K s C)(ty:Nat){σ':St}(f:kh (Dof P) σ t d s=some (v,σ')):
 Ran P G w0 ro0 K w (Builtin.copy_ #[t,u] ty #[d',C]) v σ':=by
 unfold kh at f;split at f
 case h_2=>cases f
 rename_i i dl n X A S;obtain⟨inf,dd,z,hi,F,_,rfl⟩:=qH X;simp only at f;split at f
 case h_2=>cases f
 rename_i e a3;have:=Zd a3;subst this;split at f
 case h_2=>cases f
 rename_i j Q;obtain⟨x,d2,z2,D,b2,b5,rfl⟩:=qH Q;obtain⟨db,a8,rfl⟩:=qgr hd A;obtain⟨E,U,rfl⟩:=qgr L S;split at f
 . rename_i h0;simp only[qBI,qBK]at f;obtain⟨rfl,rfl⟩:=f;refine qF0 h (v':=.int .i64 0) ?_ (by simp[qi]);have O:Nat.min n dl=0:=h0;have a2:(Builtin.firstCells x.size 0 (.slice E n U)).run P w=.ok #[] w:=by
    cases E<;>simp[Builtin.firstCells,loadCells,loadCellsFrom]
   cases db<;>simp[Builtin.copy_,run_underlying F,sizeOf,typeInfo,D,Builtin.lenOf,O,a2,storeCells,goInt]
 rename_i h0;split at f
 case h_2=>cases f
 rename_i b off len sz;simp only[VY,qBI]at A;subst A;simp only at f;split at f
 case isFalse=>cases f
 rename_i V;subst V;split at f
 case h_2=>cases f
 rename_i src c W hb;split at f
 case isFalse=>cases f
 rename_i b4;simp only[qBI,qBK]at f;obtain⟨rfl,rfl⟩:=f;obtain⟨news,n1,I,n3,n4⟩:=qkd (P:=P) h L W h0;simp only[qi]at hd;obtain⟨B,cap,y,a4,a5,b1,a9⟩:=hd;cases a4;obtain⟨B',M,g2,g3,⟨cs,el,m,g5,g6,g7⟩,g8⟩:=h.blk b _ hb;rw[y]at M;cases M;have Y:b<σ.H.length:=(qBk.1 hb).1;have a0:cs.size=K.bs b:=h.bsz b B cs el _ y m;have g:news.length=min n len*x.size:=by have:=n1.length;omega
 have Z:∀u∈news,u.oneCell'=true:=n1.oneCells I;have N:=run_storeCells_at P B off el news 0 cs w m (by simp only[qCV];rw[g];omega) Z;simp only[qCV]at N;have R:Nat.min n len=min n len:=rfl;refine⟨.int .i64 (min n len:Nat),w.setRow B (cs.toList.take off++news++cs.toList.drop (off+news.length)).toArray,K,?_,qFX K,
  h.setBlk (B:=B) (b':=.cells (zC c off src)) (w':=w.setRow B (cs.toList.take off++news++cs.toList.drop (off+news.length)).toArray) Y y rfl rfl rfl (by simp[World.setRow]) (fun k T=>setRow_other w B k _ T) ?_ (by rw[hb];simp)
   (fun a7 a6 b0 l=>by
     rw[setRow_heap w B cs _ el _ m]at l;cases l;rw[<- a0];simp[g];omega) (fun _ _ _ _=>⟨cs,el,_,m⟩),by simp[qi]⟩
 . simp[Builtin.copy_,run_underlying F,sizeOf,typeInfo,D,Builtin.lenOf,R,n3,N,goInt]
 refine⟨_,el,setRow_heap w B cs _ el _ m,putAt_all _ _ _ g5 I,by simp[Qj,g];omega,fun i a r=>?_⟩;rw[wV _ _ _ _ (by rw[n4];omega)]at r;simp only[qDC];split at r
 . rename_i J;obtain⟨v,o,l⟩:=n1.get _ _ r;refine⟨v,?_,l⟩;rw[qBX,qBt (by simp;omega),qBv (by rw[g];simp;omega)];simp only[qBY,qCW];rw[show min off cs.size=off by omega];exact o
 rename_i J;obtain⟨v,o,l⟩:=g7 i a r;refine⟨v,?_,l⟩;by_cases a1:i<off
 . rw[qBX,qBv (by simp;omega),qCi,if_pos a1];simpa using o
 rw[qBX,qBt (by simp;omega),qBt (by rw[g];simp;omega),qCm];simp only[qBY,qCW];rw[n4]at J;rw[g,show off+min n len*x.size+(i-min off cs.size-min n len*x.size)=i by omega];simpa using o
def qkH(F:WRel G w0 ro0 K σ w){t l c x s}(o:qi K l x)(r:qi K c s){mu L}(g:mkX (Dof P) mu σ t l c=some L):
 ∃v σ',(v,σ')∈L/\Ran P G w0 ro0 K w (Instr.makeSlice t x s) v σ':=by
 unfold mkX at g;split at g
 case h_2=>cases g
 rename_i k1 k2;split at g
 case h_2=>cases g
 rename_i sz tok σ' f;cases g;refine⟨_,_,qB0.2 rfl,?_⟩;obtain⟨v',w',K',h,I,Q,u⟩:=Qq (P:=P) F o r f;simp only[qi]at o r;subst o r;have S:(∃b,v'=.slice b 0 0/\b.isSome=true)/\¬tok.plain:=by
  unfold qz at f;split at f
  case h_2=>cases f
  rename_i i V cn R E N;obtain⟨inf,d,z,hi,D,_,rfl⟩:=qH R;cases E;cases N;simp only at f;split at f
  case h_2=>cases f
  rename_i e hd;have J:=Zd hd;subst J;split at f
  case h_2=>cases f
  rename_i j A;obtain⟨Z,T,Y,C,U,O,rfl⟩:=qH A;simp only[Instr.makeSlice,Sem.run_bind,run_underlying D,Result.andThen_ok]at h;have y:IntKind.i64.wrap 0=0:=by decide
  simp[asInt,asIntOf,typeInfo,C,y,askRoom,sizeOf,zeroValue,O,newRow,roomBytes]at h;refine⟨⟨_,h.1.symm,rfl⟩,?_⟩;split at f
  . simp at f;rw[<- f.1.2];simp[Tok.plain]
  cases f
 obtain⟨⟨b,rfl,hb⟩,M⟩:=S;refine⟨_,_,_,h,I,Q,?_⟩;obtain⟨a,rfl⟩:=qEd.1 hb;simp only[qi]at u⊢;rcases u with⟨⟨a0,h1,X⟩,h2,m⟩|⟨B,off,cap,h1,h2,m,W⟩
 . exact absurd m M
 simp at h1;exact .inr ⟨B,off,0,by simp[h1],by simp,m,by simp[wo]⟩
def Vs(e:WRel G w0 ro0 K σ w)(D:ERel K N env a){mu}(o){l}(h:qck (Dof P) G mu env σ o.op=some l):
 ∃v σ',(v,σ')∈l/\Did P G w0 ro0 K w (execOp a.eval o) v σ':=by
 have ex:=Jn e D;obtain⟨dst,op,type,pos,after,guard⟩:=o;simp only at h;cases op<;>simp only[qck]at h<;>try(cases h;done)
 case makeSlice t x y=>
  obtain⟨v,σ',h1,h2⟩:=qkH (P:=P) e (ex x) (ex y) h;exact⟨v,σ',h1,qF1 h2⟩
 case binOp o t x y u=>
  cases o<;>simp only at h<;>try(cases h;done)
  . obtain⟨v,σ',h1,rfl,h2⟩:=Yj (P:=P) e (ex x) (ex y) h x y;exact⟨v,σ',h1,qF2 e h2⟩
  obtain⟨v,σ',h1,rfl,h2⟩:=Yj (P:=P) e (ex x) (ex y) h x y;exact⟨v,σ',h1,qF2 e h2⟩
 case call c=>
  obtain⟨callee,args,B⟩:=c;cases callee<;>simp only at h<;>try(cases h;done)
  rename_i b;split at h
  . rename_i t u s x j f;cases mu
    . cases h
    simp only at h;obtain⟨p,z,rfl⟩:=qBu.1 h;obtain⟨v,σ'⟩:=p;obtain⟨v',w',K',r,m,C,A⟩:=qbv e (ex s) (ex x) type z;have i:args.map a.eval = #[a.eval s,a.eval x]:=(by apply Array.ext';simp[f]);have g:B = #[t,u]:=(by apply Array.ext';simpa using j);exact⟨v,σ',qB0.2 rfl,v',w',K',.inl (by simp[execOp,resolve,invoke,builtin,i,g,r]),m,C,A⟩
  . rename_i t x j f;obtain⟨v,z,rfl⟩:=qBu.1 h;obtain⟨v',r,m⟩:=qlX e (ex x) type z;have i:args.map a.eval = #[a.eval x]:=(by apply Array.ext';simp[f]);have g:B = #[t]:=(by apply Array.ext';simpa using j);exact⟨v,σ,qB0.2 rfl,v',w,K,.inl (by simp[execOp,resolve,invoke,builtin,i,g,r]),qFX K,e,m⟩
  . rename_i t u d s j f;obtain⟨p,z,rfl⟩:=qBu.1 h;obtain⟨v,σ'⟩:=p;obtain⟨v',w',K',r,m,C,A⟩:=qiw (u:=u) e (ex d) (ex s) type z;have i:args.map a.eval = #[a.eval d,a.eval s]:=(by apply Array.ext';simp[f]);have g:B = #[t,u]:=(by apply Array.ext';simpa using j);exact⟨v,σ',qB0.2 rfl,v',w',K',.inl (by simp[execOp,resolve,invoke,builtin,i,g,r]),m,C,A⟩
  cases h
end
def zA(f:Nat->Bool):Nat->Nat
 |0=>0
 |n+1=>zA f n+cond (f n) (2^n) 0
def wa(f):∀n,zA f n<2^n
 |0=>by simp[zA]
 | n+1=>by
  have:=wa f n;simp only[zA,Nat.pow_succ];cases f n<;>simp<;>omega
def ze(f):∀(n k),(zA f n).testBit k=(decide (k<n)&&f k)
 |0,k=>by simp[zA]
 | n+1,k=>by
  have h:=wa f n;have ih:=ze f n;simp only[zA];by_cases c:k=n
  . subst c
    cases hf:f k with
    | true=>
     simp only[cond_true];rw[Nat.add_comm,Nat.testBit_two_pow_add_eq,Nat.testBit_lt_two_pow h];simp
    |false=>simp;rw[ih k];simp[hf]
  by_cases a:k<n
  . cases hf:f n with
    | true=>
     simp only[cond_true];rw[Nat.add_comm,Nat.testBit_two_pow_add_gt a,ih k];simp[a,Nat.lt_succ_of_lt a]
    |false=>simp[ih k,a];intro;omega
  have b:n+1<=k:=by omega
  have hb:zA f n+cond (f n) (2^n) 0<2^k:=by
   have:2^(n+1)<=2^k:=Nat.pow_le_pow_right (by omega) b;rw[Nat.pow_succ]at this;cases f n<;>simp<;>omega
  rw[Nat.testBit_lt_two_pow hb];simp;omega
def zB{f g}:∀{n:Nat},(∀k,k<n->f k=g k)->zA f n=zA g n
 |0,_=>rfl
 |n+1,h=>by simp only[zA];rw[zB fun k a=>h k (by omega),h n (by omega)]
def Ya(m n):zA (fun k=>m.testBit k) n=m%2^n:=by
 apply Nat.eq_of_testBit_eq;intro k;rw[ze,Nat.testBit_mod_two_pow]
def kZ{f}:∀{n:Nat},(∀k,k<n->f k=false)->zA f n=0
 |0,_=>rfl
 |n+1,h=>by simp only[zA];rw[kZ fun k a=>h k (by omega),h n (by omega)];simp
def qbM(x y:Nat->Bool)(c:Bool):Nat->Bool
 |0=>c
 |k+1=>(x k&&y k)||((x k ^^ y k)&&qbM x y c k)
def b2n(b:Bool):Nat:=cond b 1 0
def qb8(x y c):∀n,zA (fun k=>(x k ^^ y k) ^^ qbM x y c k) n+2^n*b2n (qbM x y c n)=zA x n+zA y n+b2n c
 |0=>by simp[zA,qbM]
 | n+1=>by
  have ih:=qb8 x y c n;simp only[zA,qbM,Nat.pow_succ];generalize zA (fun k=>(x k ^^ y k) ^^ qbM x y c k) n=s at *;generalize qbM x y c n=q at *;generalize 2^n=p at *;cases hx:x n<;>cases hy:y n<;>cases q<;>simp[b2n]at ih⊢<;>omega
def wB(x y c n):zA (fun k=>(x k ^^ y k) ^^ qbM x y c k) n=(zA x n+zA y n+b2n c)%2^n:=by
 have h:=qb8 x y c n;have h1:=wa (fun k=>(x k ^^ y k) ^^ qbM x y c k) n;rw[<- h,Nat.add_mul_mod_self_left,Nat.mod_eq_of_lt h1]
def qap(x):∀n,zA (fun k=>!x k) n=2^n-1-zA x n
 |0=>rfl
 | n+1=>by
  have:=wa x n;have:=qap x n;simp only[zA,Nat.pow_succ];cases x n<;>simp<;>omega
def qeE(x y:Nat->Bool):Nat->Bool
 |0=>false
 |k+1=>(!x k&&y k)||(!(x k ^^ y k)&&qeE x y k)
def QT(x y):∀n,qeE x y n=decide (zA x n<zA y n)
 |0=>by simp[qeE,zA]
 | n+1=>by
  have ih:=QT x y n;have h1:=wa x n;have h2:=wa y n;simp only[qeE,zA,ih];rcases Bool.eq_false_or_eq_true (x n) with b|b<;>rcases Bool.eq_false_or_eq_true (y n) with a|a<;>simp[b,a]<;>omega
def eqT(x y:Nat->Bool):Nat->Bool
 |0=>true
 |k+1=>eqT x y k&&!(x k ^^ y k)
def qbg(x y):∀n,eqT x y n=decide (zA x n=zA y n)
 |0=>by simp[eqT,zA]
 | n+1=>by
  have ih:=qbg x y n;have h1:=wa x n;have h2:=wa y n;simp only[eqT,zA,ih];rcases Bool.eq_false_or_eq_true (x n) with b|b<;>rcases Bool.eq_false_or_eq_true (y n) with a|a<;>simp[b,a]<;>omega
def Jv(x:Nat->Bool):Nat->Bool
 |0=>false
 |k+1=>Jv x k||x k
def Ju(x):∀n,Jv x n=decide (zA x n≠0)
 |0=>by simp[Jv,zA]
 | n+1=>by
  have ih:=Ju x n;have:0<2^n:=Nat.pow_pos (by omega);simp only[Jv,zA,ih];rcases Bool.eq_false_or_eq_true (x n) with a|a<;>simp[a]<;>omega
def qjq(x k n):zA (fun i=>decide (k<=i)&&x (i-k)) n=(zA x n*2^k)%2^n:=by
 apply Nat.eq_of_testBit_eq;intro i;rw[ze,Nat.testBit_mod_two_pow,Nat.testBit_mul_two_pow,ze];by_cases h1:i<n<;>by_cases h2:k<=i<;>simp[h1,h2];intro;omega
def qjr(x k n):zA (fun i=>decide (i+k<n)&&x (i+k)) n=zA x n/2^k:=by
 apply Nat.eq_of_testBit_eq;intro i;rw[ze,Nat.testBit_div_two_pow,ze];by_cases h1:i<n<;>by_cases h2:i+k<n<;>simp[h1,h2]
 . omega
def qsq(a:Nat)(y:Nat->Bool)(n:Nat):Nat->Nat
 |0=>0
 |k+1=>(qsq a y n k+cond (y k) ((a*2^k)%2^n) 0)%2^n
def qcL(a y n):∀k,qsq a y n k=(a*zA y k)%2^n
 |0=>by simp[qsq,zA]
 | k+1=>by
  simp only[qsq,zA,qcL a y n k,Nat.mul_add]
  cases y k with
  |true=>simp[Nat.add_mod]
  |false=>simp
def qaQ(x:Nat->Bool):Nat->Nat
 |0=>0
 |k+1=>qaQ x k+b2n (x k)
def qgb(x):∀n,qaQ x n<=n
 |0=>Nat.le_refl _
 |n+1=>by have:=qgb x n;simp only[qaQ,b2n];cases x n<;>simp<;>omega
def qmW(x y n):zA (fun k=>x k&&y k) n=zA x n &&& zA y n:=by
 apply Nat.eq_of_testBit_eq;intro i;rw[Nat.testBit_and,ze,ze,ze];cases decide (i<n)<;>simp
def qrd(x y n):zA (fun k=>x k||y k) n=zA x n ||| zA y n:=by
 apply Nat.eq_of_testBit_eq;intro i;rw[Nat.testBit_or,ze,ze,ze];cases decide (i<n)<;>simp
def qmV(x y n):zA (fun k=>x k ^^ y k) n=zA x n ^^^ zA y n:=by
 apply Nat.eq_of_testBit_eq;intro i;rw[Nat.testBit_xor,ze,ze,ze];cases decide (i<n)<;>simp
def qao(t):∀n,zA (fun k=>decide (k=0)&&t) (n+1)=b2n t
 |0=>by cases t<;>rfl
 | n+1=>by
  have:=qao t n;rw[zA,this];simp
