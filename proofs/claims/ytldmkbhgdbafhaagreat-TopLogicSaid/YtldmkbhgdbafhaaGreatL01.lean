import Derived.Maps.AppendAt
import Derived.Test.YtldmkbhgdbafhaaGreatL00
namespace Go.Proofs.YtldmkbhgdbafhaaGreat
open Go.RowKit
set_option linter.unusedSimpArgs false
set_option linter.unusedVariables false
set_option maxRecDepth 100000
set_option maxHeartbeats 64000000
def cH (w:World) (A:Option Addr) (m:Nat) (a:List Value):Prop:=m=0\/∃g b,A=some (U g b)/\∀j u,a[j]? =some u->w.cell? (U g (b+j))=some u
theorem dg {P:Program} {w:World} (t R b:Nat) (e:TypeId) (i:TypeInfo) (z:Value) (size bytes:Nat) (Q:P.underlying t=some (.slice e)) (N:P.info? e=some i) (hz:i.zero=some z)
 (f:i.size=size) (D:i.bytes=bytes) (J:z.cells.size=size) (H:0<size)
 (v:Value) (n:Nat) (xs:List Value) (d:w.ownsRow b e size v n xs) (A:Option Addr) (m c:Nat) (a:List Value) (O:a.length=m*size) (Y:cH w A m a) (y:∀u∈a,u.oneCell'=true)
 (C:n+m<=maxLen) (k:(n+m)*bytes<=140737488355328) (l:b<=w.heap.size):
 ∃o p,(Builtin.append_ #[t,t] R #[v,.slice A m c]).run P w=.ok o p/\p.ownsRow b e size o (n+m) (xs++a)/\w.grownBy p v.ownBlock/\(o=.slice none 0 0↔v=.slice none 0 0/\m=0)/\(o.ownBlock=v.ownBlock\/o.ownBlock=some w.heap.size):=by
  by_cases M:m=0
  ·subst M;obtain rfl:a=[]:=Dh (by simpa using O);have K:∃q r,v=.slice q n r/\n<=r:=by
    rcases d.2 with ⟨y,B⟩ | ⟨g,s,S,hv,hb,hg,E,_⟩
    ·exact⟨none,0,by rw[y,B],by omega⟩
    exact⟨_,s,hv,E⟩
   obtain⟨q,r,rfl,F⟩:=K;refine⟨_,w,?_,by simpa using d,⟨rfl,rfl,rfl,C9 _,fun _ _ _=>rfl⟩,⟨fun h=>⟨h,rfl⟩,fun h=>h.1⟩,.inl rfl⟩;have hf:∀(x:Option Addr) (c:Nat),(Builtin.firstCells size 0 (.slice x 0 c)).run P w=.ok #[] w:=by
    intro x c;cases x<;>simp[Builtin.firstCells,loadCells,loadCellsFrom]
   cases q<;>simp[Builtin.append_,run_underlying Q,sizeOf,typeInfo,N,f,Builtin.lenOf,F,hf,storeCells]
  rcases Y with h | ⟨g,L,rfl,E⟩
  ·exact absurd h M
  obtain⟨o,p,hr,B,T,W,X⟩:=run_append_own_at (P:=P) w b t R e i z size bytes Q N hz f D J H v n xs d (U g L) m c a O
   (fun j u hu=>by rw[Go.WideShapes.add_plain];exact E j u hu) y C k l
  exact⟨o,p,hr,B,T,W,X⟩
theorem bK {P:Program} {w:World} {k:Array Oper} {rest:List Oper} {o:Oper} {a:Act} {Q:Exit->Act->World->Prop} (B:Region.wanted o (yielded k a.tmps)=true) (s x:Operand) (t:TypeId)
 (S:o.op=.call { callee:=.builtin .append,args:=#[s,x],argTypes:=#[t,t] }) (d:Nat) (e:TypeId) (i:TypeInfo) (z:Value) (size bytes:Nat)
 (X:P.underlying t=some (.slice e)) (O:P.info? e=some i) (hz:i.zero=some z) (j:i.size=size) (y:i.bytes=bytes) (D:z.cells.size=size) (C:0<size)
 (v:Value) (n:Nat) (xs:List Value) (W:a.eval s=v) (p:w.ownsRow d e size v n xs) (A:Option Addr) (m c:Nat) (b:List Value) (Y:a.eval x=.slice A m c) (R:b.length=m*size) (M:cH w A m b) (E:∀u∈b,u.oneCell'=true)
 (r:n+m<=maxLen) (f:(n+m)*bytes<=140737488355328) (g:d<=w.heap.size)
 (h:∀l q,Z (q.ownsRow d e size l (n+m) (xs++b))->Z (w.grownBy q v.ownBlock)->Z (l=.slice none 0 0↔v=.slice none 0 0/\m=0)->Z (l.ownBlock=v.ownBlock\/l.ownBlock=some w.heap.size)->
  wpList P k Q rest (a.put o.dst l) q):wpList P k Q (o::rest) a w:=by
 refine cR B fun K N=>?_
 obtain⟨l,q,T,F,H,J,L⟩:=dg (P:=P) (w:=w) t o.type d e i z size bytes X O hz j y D C v n xs p A m c b R M E r f g
 unfold Oper.wp execOp
 simp only[S,resolve,invoke,builtin,DM,DZ,DH,Eb,D1,Er,W,Y,T]
 exact N _ _ (h l q (bZ F) (bZ H) (bZ J) (bZ L))
section
def dl (w:World) (C:Nat->Prop) (A:Option Addr) (cs:List Value):Prop:=∀i u,cs[i]? =some u->∃g off,A=some (U g off)/\C g/\w.cell? (U g (off+i))=some u
section
variable {w w':World} {C D:Nat->Prop} {A:Option Addr} {cs:List Value} {Y:List Nat}
theorem dl.nil:dl w C A []:=fun i u h=>by simp at h
theorem dl.keep (h:dl w C A cs) (j:ad Y w w') (e:∀y∈Y,¬C y):dl w' C A cs:=fun i u f=>by
 obtain⟨g,a,c,b,d⟩:=h i u f;exact⟨g,a,c,b,j.cellEq d (fun k=>e g k b)⟩
theorem dl.mono (h:dl w C A cs) (e:∀g,g<w.heap.size->C g->D g):dl w D A cs:=fun i u f=>by
 obtain⟨g,a,c,d,b⟩:=h i u f;exact⟨g,a,c,e g (block_lt_of_cell b) d,b⟩
theorem dl.at_ (h:dl w C A cs) (k:0<cs.length):∃g a,A=some (U g a)/\C g/\g<w.heap.size/\∀i u,cs[i]? =some u->w.cell? (U g (a+i))=some u:=by
 obtain⟨g,a,rfl,c,d⟩:=h 0 _ (CT k);refine⟨g,a,rfl,c,block_lt_of_cell d,fun i u j=>?_⟩;obtain⟨l,b,e,_,f⟩:=h i u j;cases e;exact f
theorem dl.mk_ {g a:Nat} (b:C g) (h:∀i u,cs[i]? =some u->w.cell? (U g (a+i))=some u):dl w C (some (U g a)) cs:=fun i u c=>⟨g,a,rfl,b,h i u c⟩
theorem dl.src {m s:Nat} (h:dl w C A cs) (d:cs.length=m*s) (e:0<s):cH w A m cs:=by
 cases cs with
 | nil=>
  refine .inl ?_;rcases DY m with a | a
  ·exact a
  have:=Nat.mul_pos a e;simp at d;omega
 | cons x r=>
  obtain⟨g,b,rfl,_,_,c⟩:=h.at_ (by simp);exact .inr ⟨g,b,rfl,c⟩
end
theorem dB {w:World} {b e s n:Nat} {A:Option Addr} {c:Nat} {cs:List Value} (h:w.ownsRow b e s (.slice A n c) n cs):dl w (fun g=>b<=g) A cs:=fun i u a=>by
 have f:=h.1;rcases h.2 with ⟨j,l⟩ | ⟨g,k,d,j,m,o,q,r,v,p⟩
 ·subst l;simp at f;rw[f] at a;cases a
 injection j with hA _ _;subst hA;refine⟨g,0,rfl,m,?_⟩;rw[Dl,Blk.cell (cs:=d) (t:=e) o];rw[<-p,Dx] at a
 split at a
 ·simpa using a
 cases a
theorem bS {w:World} {a:Nat} {e:TypeId} {size n:Nat} {v:Value} {xs:List Value} (h:w.ownsRow a e size v n xs):∃A c,v=.slice A n c/\n<=c/\c<=maxLen:=by
 rcases h.2 with ⟨rfl,rfl⟩ | ⟨g,b,d,j,k,l,f,i,m,o⟩
 ·exact⟨none,0,rfl,C9 _,by simp[maxLen]⟩
 exact⟨_,b,j,f,i⟩
theorem mg (w:World) (a:Nat) (e:TypeId) (size:Nat):w.ownsRow a e size (.slice none 0 0) 0 []:=⟨by simp,.inl ⟨rfl,rfl⟩⟩
theorem aW {w w':World} {a:Nat} {e:TypeId} {size n:Nat} {v:Value} {xs:List Value} (h:w.ownsRow a e size v n xs) (b:ad [] w w'):w'.ownsRow a e size v n xs:=
 dE h b (fun _ _=>by simp)
theorem cz {w:World} {a:Nat} {e:TypeId} {size n:Nat} {v:Value} {xs:List Value} (h:w.ownsRow a e size v n xs) {g:Nat} (f:v.ownBlock=some g):a<=g/\g<w.heap.size:=by
 obtain⟨c,b,d⟩:=jy h f;exact⟨c,d.lt⟩
def Pl (A:Option Addr):Prop:=∀a,A=some a->a.spot=none
def eM (w:World) (C:Nat->Prop) (A:Option Addr) (cs:List Value):Prop:=Pl A/\dl w C A cs
theorem eM.keep {w w':World} {C:Nat->Prop} {A:Option Addr} {cs:List Value} {Y:List Nat} (h:eM w C A cs) (b:ad Y w w') (a:∀y∈Y,¬C y):eM w' C A cs:=⟨h.1,h.2.keep b a⟩
theorem eM.mono {w:World} {C D:Nat->Prop} {A:Option Addr} {cs:List Value} (h:eM w C A cs) (a:∀g,g<w.heap.size->C g->D g):eM w D A cs:=⟨h.1,h.2.mono a⟩
theorem dq {w:World} {b e s n:Nat} {A:Option Addr} {c:Nat} {cs:List Value} (h:w.ownsRow b e s (.slice A n c) n cs):eM w (fun g=>b<=g) A cs:=⟨fun a j=>by
 subst j;rcases h.2 with ⟨d,k⟩ | ⟨g,f,i,d,l,o,m,p,q,r⟩
 ·simp at d
 injection d with hA _ _;cases hA;rfl,dB h⟩
theorem jY {w:World} {b d s n:Nat} {e:TypeId} {v:Value} {xs:List Value} (h:w.ownsRow b e s v n xs) (f:d<=b):w.ownsRow d e s v n xs:=
 ⟨h.1,h.2.elim Ey (fun ⟨g,a,c,j,i,r⟩=>Or.inr ⟨g,a,c,j,Dc f i,r⟩)⟩
theorem dW {w:World} {b s n:Nat} {e:TypeId} {A:Option Addr} {c:Nat} {xs:List Value} (h:w.ownsRow b e s (.slice A n c) n xs) (i:0<n):∃g,A=V g:=by
 rcases h.2 with ⟨_,f⟩ | ⟨g,d,_,a,_⟩
 ·omega
 injection a with a;exact⟨g,a⟩
inductive Tr where
 | nil
 | v (x:Value) (r:Tr)
 | sl (k:Nat) (row r:Tr)
namespace Tr
def len:Tr->Nat
 | .nil=>0
 | .v _ r=>r.len+1
 | .sl _ _ r=>r.len+1
def app:Tr->Tr->Tr
 | .nil,t=>t
 | .v x r,t=>.v x (r.app t)
 | .sl k row r,t=>.sl k row (r.app t)
theorem app_nil:∀t:Tr,t.app .nil=t
 | .nil=>rfl
 | .v x r=>by simp[app,app_nil r]
 | .sl k row r=>by simp[app,app_nil r]
theorem app_assoc:∀a b c:Tr,(a.app b).app c=a.app (b.app c)
 | .nil,b,c=>rfl
 | .v x r,b,c=>by simp[app,app_assoc r]
 | .sl k row r,b,c=>by simp[app,app_assoc r]
theorem app_len:∀a b:Tr,(a.app b).len=a.len+b.len
 | .nil,b=>by simp[app,len]
 | .v x r,b=>by simp[app,len,app_len r];omega
 | .sl k row r,b=>by simp[app,len,app_len r];omega
end Tr
def Is (w:World) (C:Nat->Prop):Tr->List Value->Prop
 | .nil,cs=>cs=[]
 | .v x r,cs=>∃cs',cs=x::cs'/\x.oneCell'=true/\Is w C r cs'
 | .sl k row r,cs=>∃A n c a cs',cs=.slice A n c::cs'/\row.len=n*k/\n<=c/\c<=maxLen/\eM w C A a/\Is w C row a/\Is w C r cs'
section
variable {w w':World} {C D:Nat->Prop} {Y:List Nat}
theorem Is.len:∀ {t:Tr} {cs:List Value},Is w C t cs->cs.length=t.len
 | .nil,cs,h=>by obtain rfl:cs=[]:=h;rfl
 | .v x r,cs,h=>by obtain⟨cs',rfl,_,a⟩:=h;simp[Tr.len,a.len]
 | .sl k row r,cs,h=>by obtain⟨A,n,c,b,cs',rfl,_,_,_,_,_,a⟩:=h;simp[Tr.len,a.len]
theorem Is.one:∀ {t:Tr} {cs:List Value},Is w C t cs->∀u∈cs,u.oneCell'=true
 | .nil,cs,h,u,a=>by obtain rfl:cs=[]:=h;cases a
 | .v x r,cs,h,u,a=>by
   obtain⟨cs',rfl,d,b⟩:=h;rcases Db.1 a with rfl | a
   ·exact d
   exact b.one u a
 | .sl k row r,cs,h,u,a=>by
   obtain⟨A,n,c,e,cs',rfl,_,_,_,_,_,b⟩:=h;rcases Db.1 a with rfl | a
   ·rfl
   exact b.one u a
theorem Is.keep:∀ {t:Tr} {cs:List Value},Is w C t cs->ad Y w w'->(∀y∈Y,¬C y)->Is w' C t cs
 | .nil,cs,h,hk,hY=>h
 | .v x r,cs,h,hk,hY=>by
   obtain⟨cs',rfl,a,b⟩:=h;exact⟨cs',rfl,a,b.keep hk hY⟩
 | .sl k row r,cs,h,hk,hY=>by
   obtain⟨A,n,c,i,cs',rfl,a,b,d,e,f,g⟩:=h;exact⟨A,n,c,i,cs',rfl,a,b,d,e.keep hk hY,f.keep hk hY,g.keep hk hY⟩
theorem Is.mono:∀ {t:Tr} {cs:List Value},Is w C t cs->(∀g,g<w.heap.size->C g->D g)->Is w D t cs
 | .nil,cs,h,hC=>h
 | .v x r,cs,h,hC=>by
   obtain⟨cs',rfl,a,b⟩:=h;exact⟨cs',rfl,a,b.mono hC⟩
 | .sl k row r,cs,h,hC=>by
   obtain⟨A,n,c,j,cs',rfl,a,b,d,e,f,i⟩:=h;exact⟨A,n,c,j,cs',rfl,a,b,d,e.mono hC,f.mono hC,i.mono hC⟩
theorem Is.app:∀ {a b:Tr} {cs d:List Value},Is w C a cs->Is w C b d->Is w C (a.app b) (cs++d)
 | .nil,b,cs,d,h,k=>by obtain rfl:cs=[]:=h;exact k
 | .v x r,b,cs,d,h,k=>by
   obtain⟨cs',rfl,e,f⟩:=h;exact⟨cs'++d,rfl,e,f.app k⟩
 | .sl kk row r,b,cs,d,h,k=>by
   obtain⟨A,n,c,m,cs',rfl,e,f,g,i,j,l⟩:=h;exact⟨A,n,c,m,cs'++d,rfl,e,f,g,i,j,l.app k⟩
theorem Is.cut:∀ {a b:Tr} {cs:List Value},Is w C (a.app b) cs->∃d e,cs=d++e/\Is w C a d/\Is w C b e
 | .nil,b,cs,h=>⟨[],cs,rfl,rfl,h⟩
 | .v x r,b,cs,h=>by
   obtain⟨cs',rfl,f,g⟩:=h;obtain⟨d,e,rfl,i,j⟩:=g.cut;exact⟨x::d,e,rfl,⟨d,rfl,f,i⟩,j⟩
 | .sl k row r,b,cs,h=>by
   obtain⟨A,n,c,q,cs',rfl,f,g,i,j,l,m⟩:=h;obtain⟨d,e,rfl,o,p⟩:=m.cut;exact⟨_::d,e,rfl,⟨A,n,c,q,d,rfl,f,g,i,j,l,o⟩,p⟩
def cat {α:Type} (f:α->Tr):List α->Tr
 | []=>.nil
 | x::l=>(f x).app (cat f l)
theorem bF {α:Type} {f:α->Tr} {k:Nat} (a:∀x,(f x).len=k):∀l:List α,(cat f l).len=l.length*k
 | []=>by simp[cat,Tr.len]
 | x::l=>by simp only[cat,Tr.app_len,a,bF a l,Dj,Nat.add_mul];omega
theorem eX {α:Type} (f:α->Tr):∀l m:List α,cat f (l++m)=(cat f l).app (cat f m)
 | [],m=>rfl
 | x::l,m=>by simp only[D3,cat,eX f l m,Tr.app_assoc]
theorem Is.cat_at {α:Type} {f:α->Tr} {k:Nat} (g:∀x,(f x).len=k):∀ {l:List α} {cs:List Value} {j:Nat} {x:α},Is w C (cat f l) cs->l[j]? =some x->∃b,Is w C (f x) b/\∀i u,b[i]? =some u->cs[j*k+i]? =some u
 | [],cs,j,x,h,hx=>by simp at hx
 | y::l,cs,0,x,h,hx=>by
   simp at hx;subst hx;obtain⟨c,n,rfl,d,e⟩:=h.cut;refine⟨c,d,fun i u a=>?_⟩;rw[Nat.zero_mul,Dl,DC (CV.1 a).1];exact a
 | y::l,cs,j+1,x,h,hx=>by
   obtain⟨c,n,rfl,d,e⟩:=h.cut;obtain⟨b,o,p⟩:=Is.cat_at g (l:=l) (j:=j) e (by simpa using hx);refine⟨b,o,fun i u a=>?_⟩;have m:c.length=k:=d.len.trans (g y);rw[Dv (by rw[m,Nat.add_mul];omega),m,show (j+1)*k+i - k=j*k+i by rw[Nat.add_mul];omega];exact p i u a
end
section
variable {w:World} {C:Nat->Prop} {α:Type} {f:α->Tr}
theorem Is.snoc {l:List α} {x:α} {cs a:List Value} (h:Is w C (cat f l) cs) (k:Is w C (f x) a):Is w C (cat f (l++[x])) (cs++a):=by
 rw[eX];have:=h.app k;rwa [show cat f [x]=f x by simp[cat,Tr.app_nil]]
theorem cN {l:List α} {j:Nat} {x:α} (h:l[j]? =some x):l.take (j+1)=l.take j++[x]:=by rw[Dq,h];rfl
theorem rU {c b:List Value} {a k:Nat} (f:b.length=k) (h:∀i u,b[i]? =some u->c[a+i]? =some u):c.drop a=b++c.drop (a+k):=by
 refine Ee (fun i=>?_);rw[DK];by_cases e:i<k
 ·obtain⟨u,d⟩:∃u,b[i]? =some u:=⟨b[i]'(by omega),CT (by omega)⟩;rw[h i u d,DC (by omega),d]
 rw[Dv (by omega),DK,show a+k+(i - b.length)=a+i by omega]
end
theorem jD {w w':World} {D:Nat->Prop} {v i:Value} {l d:Tr} {cs a:List Value} (n:Is w (fun g=>D g/\v.ownBlock≠some g) l cs) (p:Is w (fun g=>D g/\v.ownBlock≠some g) d a) (m:w.grownBy w' v.ownBlock)
 (b:i.ownBlock=v.ownBlock\/i.ownBlock=some w.heap.size):Is w' (fun g=>D g/\i.ownBlock≠some g) (l.app d) (cs++a):=by
  have h:=(n.app p).mono (D:=fun g=>(D g/\v.ownBlock≠some g)/\g<w.heap.size) (fun g o h=>⟨h,o⟩);have f:ad v.ownBlock.toList w w':=ad.grown m (fun k f=>by rw[f];simp);refine(h.keep f (fun y j c=>?_)).mono (fun g _ c=>⟨c.1.1,fun e=>?_⟩)
  ·rw[D8] at j;exact c.1.2 j
  rcases b with b | b
  ·exact c.1.2 (b▸e)
  rw[b] at e;injection e with e;have:=c.2;omega
theorem rJ {w0 w w':World} {v:Value} (a:ad [] w0 w) (d:w.grownBy w' v.ownBlock) (c:∀g,v.ownBlock=some g->w0.heap.size<=g):ad [] w0 w':=
 (a.nil.trans (ad.grown (X:=v.ownBlock.toList) d (fun k a=>by rw[a];simp))).mono (fun y b=>.inr (by rw[D8] at b;exact c y b))
end
section
section
variable {α:Type} {f:α->Tr} {k:Nat} {e:TypeId} {D:Nat->Prop} {B0:Nat} {w w' W0:World} {X:List Nat}
structure af (f:α->Tr) (k:Nat) (e:TypeId) (D:Nat->Prop) (B0:Nat) (w:World) (A:Option Addr) (c:Nat) (L:List α):Prop where
 ex:∃cs,w.ownsRow B0 e k (.slice A L.length c) L.length cs/\Is w (fun g=>D g/\(Value.slice A L.length c).ownBlock≠some g) (cat f L) cs
 mc:L.length<=c
 cm:c<=maxLen
theorem af.nil:af f k e D B0 w none 0 []:=⟨⟨[],mg _ _ _ _,rfl⟩,C9 _,by simp[maxLen]⟩
theorem af.own {A:Option Addr} {c:Nat} {L:List α} (h:af f k e D B0 w A c L) {g:Nat} (b:(Value.slice A L.length c).ownBlock=some g):B0<=g/\g<w.heap.size:=by
 obtain⟨⟨cs,a,_⟩,_,_⟩:=h;exact cz a b
theorem af.keep0 {A:Option Addr} {c:Nat} {L:List α} (h:af f k e D B0 w A c L) (a:ad [] w w'):af f k e D B0 w' A c L:=by
 obtain⟨⟨cs,b,d⟩,g,i⟩:=h;exact⟨⟨cs,aW b a,d.keep a (by simp)⟩,g,i⟩
theorem af.keep {A:Option Addr} {c:Nat} {L:List α} (h:af f k e D B0 w A c L) (d:ad X w w') (b:∀y∈X,y<B0/\¬D y):af f k e D B0 w' A c L:=by
 obtain⟨⟨cs,a,i⟩,j,l⟩:=h;exact⟨⟨cs,dE a d (fun g n o=>by have:=(cz a n).1;have:=(b g o).1;omega),i.keep d (fun y p m=>(b y p).2 m.1)⟩,j,l⟩
theorem af.mono {E:Nat->Prop} {A:Option Addr} {c:Nat} {L:List α} (h:af f k e D B0 w A c L) (j:∀g,D g->E g):af f k e E B0 w A c L:=by
 obtain⟨⟨cs,a,b⟩,d,i⟩:=h;exact⟨⟨cs,a,b.mono (fun g _ h=>⟨j g h.1,h.2⟩)⟩,d,i⟩
def ag (f:α->Tr) (w:World) (C:Nat->Prop) (A:Option Addr) (L:List α):Prop:=∃a,eM w C A a/\Is w C (cat f L) a
theorem af.rows {A:Option Addr} {c:Nat} {L:List α} (h:af f k e D B0 w A c L):ag f w (fun g=>D g\/B0<=g) A L:=by
 obtain⟨⟨cs,a,b⟩,d,i⟩:=h;exact⟨cs,(dq a).mono (fun g _ h=>.inr h),b.mono (fun g _ h=>.inl h.1)⟩
theorem ag.mono {C E:Nat->Prop} {A:Option Addr} {L:List α} (h:ag f w C A L) (a:∀g,g<w.heap.size->C g->E g):ag f w E A L:=by
 obtain⟨d,b,c⟩:=h;exact⟨d,b.mono a,c.mono a⟩
theorem ag.keep {C:Nat->Prop} {A:Option Addr} {L:List α} (h:ag f w C A L) (b:ad X w w') (a:∀y∈X,¬C y):ag f w' C A L:=by
 obtain⟨e,c,d⟩:=h;exact⟨e,c.keep b a,d.keep b a⟩
theorem ag.keep0 {C:Nat->Prop} {A:Option Addr} {L:List α} (h:ag f w C A L) (a:ad [] w w'):ag f w' C A L:=h.keep a (by simp)
theorem ag.nil {C:Nat->Prop} {A:Option Addr} (a:Pl A):ag f w C A []:=⟨[],⟨a,dl.nil⟩,rfl⟩
theorem ag.get {C:Nat->Prop} {A:Option Addr} {L:List α} {j:Nat} {x:α} (m:∀x,(f x).len=k) (t:0<k) (h:ag f w C A L) (n:L[j]? =some x):
 ∃g a b,A=some (U g a)/\C g/\g<w.heap.size/\Is w C (f x) b/\∀i u,b[i]? =some u->w.cell? (U g (a+j*k+i))=some u:=by
  obtain⟨y,o,e⟩:=h;obtain⟨b,p,q⟩:=e.cat_at m n;have l:=e.len;rw[bF m] at l;have v:j<L.length:=(CV.1 n).1;obtain⟨g,a,rfl,r,c,d⟩:=o.2.at_ (by rw[l];exact Nat.mul_pos (by omega) t);exact⟨g,a,b,rfl,r,c,p,fun i u s=>by rw[Ej];exact d _ _ (q i u s)⟩
theorem pG {A:Option Addr} {c:Nat} {L:List α} (h:af f k e D B0 w A c L) (b:w.grownBy w' (Value.slice A L.length c).ownBlock):∃Y,ad Y w w'/\∀y∈Y,B0<=y:=
 ⟨(Value.slice A L.length c).ownBlock.toList,ad.grown b (fun k d=>by rw[d];simp),fun y a=>by rw[D8] at a;exact(h.own a).1⟩
theorem mZ {P:Program} (t F:Nat) (bytes:Nat) (z:Value) (S:P.underlying t=some (.slice e)) (b:(P.info? e).map (fun i=>(i.zero,i.size,i.bytes))=some (some z,k,bytes))
 (s:z.cells.size=k) (q:0<k) {A:Option Addr} {c:Nat} {L:List α} {y:α} (K:af f k e D W0.heap.size w A c L) (j:ad X W0 w)
 (B:Option Addr) (d:Nat) (a:List Value) (hl:a.length=k) (J:cH w B 1 a) (x:Is w (fun g=>D g/\(Value.slice A L.length c).ownBlock≠some g) (f y) a) (M:(L.length+1)*bytes<=140737488355328) (O:L.length+1<=maxLen):
 ∃n o w',(Builtin.append_ #[t,t] F #[.slice A L.length c,.slice B 1 d]).run P w=.ok (.slice n (L.length+1) o) w'/\af f k e D W0.heap.size w' n o (L++[y])/\ad X W0 w'/\w.grownBy w' (Value.slice A L.length c).ownBlock:=by
  obtain⟨⟨cs,v,H⟩,h3,h4⟩:=K;cases r:P.info? e with
  | none=>simp[r] at b
  | some i=>
   simp only[r,EM,Option.some.injEq,Prod.mk.injEq] at b;obtain⟨W,R,p⟩:=b;obtain⟨v',w',Q,E,u,q3,q4⟩:=dg (P:=P) (w:=w) t F W0.heap.size e i z k bytes S r W R p s q _ L.length cs v B 1 d a (by omega) J x.one O M j.size;obtain⟨n,o,rfl,Y,m2⟩:=bS E;have h:(L++[y]).length=L.length+1:=by simp
   refine⟨n,o,w',Q,⟨⟨cs++a,by rw[h];exact E,?_⟩,by rw[h];exact Y,m2⟩,?_,u⟩
   ·rw[h,eX,show cat f [y]=f y by simp[cat,Tr.app_nil]];exact jD H x u q4
   have m:ad (Value.slice A L.length c).ownBlock.toList w w':=ad.grown u (fun k N=>by rw[N];simp);refine⟨m.os.trans j.os,m.tape.trans j.tape,m.output.trans j.output,Dc j.size m.size,fun g C T=>(m.block g (Dr C j.size) (fun l=>?_)).trans (j.block g C T)⟩;rw[D8] at l;have:=(cz v l).1;omega
theorem aw {P:Program} {l:Array Oper} {rest:List Oper} {o:Oper} {a:Act} {Q:Exit->Act->World->Prop} (q:Region.wanted o (yielded l a.tmps)=true) (s x:Operand) (t:TypeId)
 (N:o.op=.call { callee:=.builtin .append,args:=#[s,x],argTypes:=#[t,t] }) (bytes:Nat) (z:Value) (S:P.underlying t=some (.slice e)) (j:(P.info? e).map (fun i=>(i.zero,i.size,i.bytes))=some (some z,k,bytes))
 (u:z.cells.size=k) (r:0<k) {A:Option Addr} {c:Nat} {L:List α} (y:α) (C:af f k e D W0.heap.size w A c L) (F:ad X W0 w) (R:a.eval s=.slice A L.length c)
 (B:Option Addr) (d:Nat) (b:List Value) (T:a.eval x=.slice B 1 d) (J:b.length=k) (v:cH w B 1 b) (E:Is w (fun g=>D g/\(Value.slice A L.length c).ownBlock≠some g) (f y) b) (H:(L.length+1)*bytes<=140737488355328) (M:L.length+1<=maxLen)
 (h:∀m n w',Z (af f k e D W0.heap.size w' m n (L++[y]))->Z (ad X W0 w')->Z (w.grownBy w' (Value.slice A L.length c).ownBlock)->wpList P l Q rest (a.put o.dst (.slice m (L.length+1) n)) w'):wpList P l Q (o::rest) a w:=by
  refine cR q fun K p=>?_;obtain⟨m,n,w',O,W,Y,q3⟩:=mZ (P:=P) t o.type bytes z S j u r C F B d b J v E H M;unfold Oper.wp execOp;simp only[N,resolve,invoke,builtin,DM,DZ,DH,Eb,D1,Er,R,T,O];exact p _ _ (h m n w' (bZ W) (bZ Y) (bZ q3))
theorem uO {P:Program} {o:Oper} {a:Act} {K:Act->World->Prop} {Q:Exit->Act->World->Prop} (s x:Operand) (t:TypeId)
 (H:o.op=.call { callee:=.builtin .append,args:=#[s,x],argTypes:=#[t,t] }) (bytes:Nat) (z:Value) (N:P.underlying t=some (.slice e)) (j:(P.info? e).map (fun i=>(i.zero,i.size,i.bytes))=some (some z,k,bytes))
 (p:z.cells.size=k) (n:0<k) {A:Option Addr} {c:Nat} {L:List α} (y:α) (r:af f k e D W0.heap.size w A c L) (v:ad X W0 w) (M:a.eval s=.slice A L.length c)
 (B:Option Addr) (d:Nat) (b:List Value) (O:a.eval x=.slice B 1 d) (E:b.length=k) (q:cH w B 1 b) (u:Is w (fun g=>D g/\(Value.slice A L.length c).ownBlock≠some g) (f y) b) (C:(L.length+1)*bytes<=140737488355328) (F:L.length+1<=maxLen)
 (h:∀l m w',Z (af f k e D W0.heap.size w' l m (L++[y]))->Z (ad X W0 w')->Z (w.grownBy w' (Value.slice A L.length c).ownBlock)->K (a.put o.dst (.slice l (L.length+1) m)) w'):Oper.wp P o a w K Q:=by
  obtain⟨l,m,w',J,R,S,T⟩:=mZ (P:=P) t o.type bytes z N j p n r v B d b E q u C F;unfold Oper.wp execOp;simp only[H,resolve,invoke,builtin,DM,DZ,DH,Eb,D1,Er,M,O,J];exact h l m w' (bZ R) (bZ S) (bZ T)
end
theorem aF {w:World} {t:TypeId} {m:Nat} {cs:List Value}:cH (w.alloc (.cells cs.toArray t)) (V w.heap.size) m cs:=by
 refine .inr ⟨w.heap.size,0,rfl,fun j u a=>?_⟩;rw[Dl,(Blk.new w t cs.toArray).cell];simpa using a
end
inductive T where
 | c (k:Int)
 | p (n kd v b:Int) (of rest:T)
deriving Inhabited,DecidableEq
structure Pt where
 n:Int
 kd:Int
 v:Int
 b:Int
 of:T
deriving DecidableEq
namespace T
def con:T->Int
 | .c k=>k
 | .p _ _ _ _ _ r=>r.con
def pts:T->List Pt
 | .c _=>[]
 | .p n kd v b of r=>⟨n,kd,v,b,of⟩::r.pts
def len (t:T):Nat:=t.pts.length
def mk:List Pt->Int->T
 | [],k=>.c k
 | x::l,k=>.p x.n x.kd x.v x.b x.of (mk l k)
theorem mk_pts:∀(l:List Pt) (k:Int),(mk l k).pts=l
 | [],_=>rfl
 | x::l,k=>by simp[mk,pts,mk_pts l k]
theorem mk_con:∀(l:List Pt) (k:Int),(mk l k).con=k
 | [],_=>rfl
 | x::l,k=>by simp[mk,con,mk_con l k]
theorem mk_eta:∀t:T,mk t.pts t.con=t
 | .c k=>rfl
 | .p n kd v b of r=>by simp[mk,pts,con,mk_eta r]
theorem ext {t u:T} (h:t.pts=u.pts) (k:t.con=u.con):t=u:=by rw[<-mk_eta t,<-mk_eta u,h,k]
end T
def ai (a b:Int):Int:=if a<b then -1 else if b<a then 1 else 0
def orI (x y:Int):Int:=if x≠0 then x else y
def T.cmp:T->T->Int
 | .c k,.c k'=>ai k k'
 | .c _,.p .. => -1
 | .p ..,.c _=>1
 | .p n kd v b of r,.p n' kd' v' b' of' r'=>orI (orI (ai kd kd') (orI (ai v v') (orI (ai b b') (T.cmp of of')))) (orI (ai n n') (T.cmp r r'))
def kc (p q:Pt):Int:=orI (ai p.kd q.kd) (orI (ai p.v q.v) (orI (ai p.b q.b) (T.cmp p.of q.of)))
def Tr3 (x y z:Int):Prop:=(x<0->y<0->z<0)/\(x=0->z=y)/\(y=0->z=x)
theorem Tr3.or {x y z a b c:Int} (h:Tr3 x y z) (k:Tr3 a b c):Tr3 (orI x a) (orI y b) (orI z c):=by
 obtain⟨d,e,f⟩:=h;obtain⟨g,i,j⟩:=k;unfold orI Tr3;refine⟨?_,?_,?_⟩<;>split<;>split<;>split<;>intros<;>omega
theorem ec (a b c:Int):Tr3 (ai a b) (ai b c) (ai a c):=by
 unfold Tr3 ai;refine⟨?_,?_,?_⟩<;>split<;>split<;>split<;>(try split)<;>(try split)<;>intros<;>omega
theorem aT {a b:Int}:ai a b=0↔a=b:=by unfold ai;split<;>(try split)<;>omega
theorem cO (a b:Int):ai b a= -ai a b:=by unfold ai;split<;>(try split)<;>(try split)<;>omega
theorem dh (a b:Int):ai a b= -1\/ai a b=0\/ai a b=1:=by unfold ai;split<;>(try split)<;>simp
theorem ei {x y:Int} (h:x= -1\/x=0\/x=1) (k:y= -1\/y=0\/y=1):orI x y= -1\/orI x y=0\/orI x y=1:=by unfold orI;split<;>assumption
theorem dF {x y a b:Int} (h:a= -x) (k:b= -y):orI a b= -orI x y:=by unfold orI;split<;>split<;>omega
theorem mh {x y:Int}:orI x y=0↔x=0/\y=0:=by unfold orI;split<;>omega
theorem T.tr3:∀a b c:T,Tr3 (T.cmp a b) (T.cmp b c) (T.cmp a c)
 | .c a,.c b,.c d=>ec a b d
 | .c a,.c b,.p .. =>by simp[Tr3,T.cmp]
 | .c a,.p ..,.c d=>by simp[Tr3,T.cmp]
 | .c a,.p ..,.p .. =>by simp[Tr3,T.cmp]
 | .p ..,.c b,.c d=>by simp[Tr3,T.cmp]
 | .p ..,.c b,.p .. =>by simp[Tr3,T.cmp]
 | .p ..,.p ..,.c d=>by simp[Tr3,T.cmp]
 | .p n kd v b of r,.p n' kd' v' b' of' r',.p n2 kd2 v2 b2 of2 r2=>by
   simp only[T.cmp];exact((ec _ _ _).or ((ec _ _ _).or ((ec _ _ _).or (T.tr3 of of' of2)))).or ((ec _ _ _).or (T.tr3 r r' r2))
theorem T.cmp_eq:∀ {a b:T},T.cmp a b=0↔a=b
 | .c a,.c b=>by simp only[T.cmp,aT,T.c.injEq]
 | .c a,.p .. =>by simp[T.cmp]
 | .p ..,.c b=>by simp[T.cmp]
 | .p n kd v b of r,.p n' kd' v' b' of' r'=>by
   simp only[T.cmp,mh,aT,T.cmp_eq (a:=of),T.cmp_eq (a:=r),T.p.injEq];constructor
   ·rintro⟨⟨d,e,f,g⟩,h,i⟩;exact⟨h,d,e,f,g,i⟩
   rintro⟨h,d,e,f,g,i⟩;exact⟨⟨d,e,f,g⟩,h,i⟩
theorem T.cmp_anti:∀a b:T,T.cmp b a= -T.cmp a b
 | .c a,.c b=>cO a b
 | .c a,.p .. =>by simp[T.cmp]
 | .p ..,.c b=>by simp[T.cmp]
 | .p n kd v b of r,.p n' kd' v' b' of' r'=>by
   simp only[T.cmp];exact dF (dF (cO _ _) (dF (cO _ _) (dF (cO _ _) (T.cmp_anti of of')))) (dF (cO _ _) (T.cmp_anti r r'))
theorem T.cmp_rng:∀a b:T,T.cmp a b= -1\/T.cmp a b=0\/T.cmp a b=1
 | .c a,.c b=>dh a b
 | .c a,.p .. =>by simp[T.cmp]
 | .p ..,.c b=>by simp[T.cmp]
 | .p n kd v b of r,.p n' kd' v' b' of' r'=>by
   simp only[T.cmp];exact ei (ei (dh _ _) (ei (dh _ _) (ei (dh _ _) (T.cmp_rng of of')))) (ei (dh _ _) (T.cmp_rng r r'))
theorem j6 (p q r:Pt):Tr3 (kc p q) (kc q r) (kc p r):=(ec _ _ _).or ((ec _ _ _).or ((ec _ _ _).or (T.tr3 _ _ _)))
theorem ij (p q:Pt):kc q p= -kc p q:=dF (cO _ _) (dF (cO _ _) (dF (cO _ _) (T.cmp_anti _ _)))
theorem xS (p q:Pt):kc p q= -1\/kc p q=0\/kc p q=1:=ei (dh _ _) (ei (dh _ _) (ei (dh _ _) (T.cmp_rng _ _)))
theorem fb {p q:Pt}:kc p q=0↔p.kd=q.kd/\p.v=q.v/\p.b=q.b/\p.of=q.of:=by unfold kc;simp only[mh,aT,T.cmp_eq]
theorem bi (p:Pt):kc p p=0:=fb.2 ⟨rfl,rfl,rfl,rfl⟩
theorem fF {p q r:Pt} (h:kc p q<0) (k:kc q r<0):kc p r<0:=(j6 p q r).1 h k
def Pt.wn (p:Pt) (n:Int):Pt:=⟨n,p.kd,p.v,p.b,p.of⟩
theorem zh (p q:Pt) (n:Int):kc (p.wn n) q=kc p q:=rfl
theorem fo {p q:Pt} (h:kc p q=0):q=p.wn q.n:=by
 obtain⟨a,c,d,e⟩:=fb.1 h;obtain⟨n,kd,v,b,f⟩:=q
 simp_all [Pt.wn]
def Srt (l:List Pt):Prop:=l.Pairwise (fun p q=>kc p q<0)
def cf:List Pt->Pt->Int
 | [],_=>0
 | x::l,q=>(if kc x q=0 then x.n else 0)+cf l q
theorem fM {q:Pt}:∀ {l:List Pt},(∀x∈l,kc q x<0)->cf l q=0
 | [],_=>rfl
 | x::l,h=>by
   have:=h x (by simp);unfold cf;rw[fM (fun y a=>h y (by simp[a])),if_neg (by rw[ij q x];omega)];rfl
theorem Srt.ext:∀ {l k:List Pt},Srt l->Srt k->(∀p∈l,p.n≠0)->(∀p∈k,p.n≠0)->(∀q,cf l q=cf k q)->l=k
 | [],[],_,_,_,_,_=>rfl
 | [],y::k,_,hk,_,nk,h=>by
   have c:=h y;unfold Srt at hk;rw[DJ] at hk;simp only[cf,bi,if_true,fM hk.1] at c;exact absurd (by omega) (nk y (by simp))
 | x::l,[],hl,_,nl,_,h=>by
   have c:=h x;unfold Srt at hl;rw[DJ] at hl;simp only[cf,bi,if_true,fM hl.1] at c;exact absurd (by omega) (nl x (by simp))
 | x::l,y::k,hl,hk,nl,nk,h=>by
   unfold Srt at hl hk;rw[DJ] at hl hk;have m:=nl x (by simp);have o:=nk y (by simp);have g:=h x;have i:=h y;simp only[cf,bi,if_true,fM hl.1,fM hk.1] at g i;have j:=ij x y;rcases Int.lt_trichotomy (kc x y) 0 with a | a | a
   ·have:cf k x=0:=fM (fun z b=>fF a (hk.1 z b));rw[if_neg (by omega),this] at g;omega
   ·rw[if_pos (by omega),fM (fun z b=>by
     have:=(j6 x y z).2.1 a;have:=hk.1 z b;omega)] at g
    have e:y=x:=by
     have:=fo a;rw[this];unfold Pt.wn;rw[show y.n=x.n by omega]
    subst e;rw[Srt.ext hl.2 hk.2 (fun p f=>nl p (by simp[f])) (fun p f=>nk p (by simp[f])) (fun q=>by have:=h q;simp only[cf] at this;omega)]
   have d:kc y x<0:=by omega
   have:cf l y=0:=fM (fun z b=>fF d (hl.1 z b));rw[if_neg (by omega),this] at i;omega
def aJ:List Pt->List Pt->List Pt
 | [],ys=>ys
 | x::xs,[]=>x::xs
 | x::xs,y::ys=>if kc x y<0 then x::aJ xs (y::ys) else if 0<kc x y then y::aJ (x::xs) ys else if x.n+y.n=0 then aJ xs ys else y.wn (x.n+y.n)::aJ xs ys
termination_by xs ys=>xs.length+ys.length
theorem oK (xs:List Pt):aJ xs []=xs:=by cases xs<;>simp[aJ]
theorem iF:∀(xs ys:List Pt) (q:Pt),cf (aJ xs ys) q=cf xs q+cf ys q
 | [],ys,q=>by simp[aJ,cf]
 | x::xs,[],q=>by simp[aJ,cf]
 | x::xs,y::ys,q=>by
   rw[aJ]
   split
   ·simp only[cf,iF xs (y::ys) q];omega
   split
   ·simp only[cf,iF (x::xs) ys q];omega
   have b:kc x y=0:=by omega
   have a:kc x q=kc y q:=(j6 x y q).2.1 b
   split
   ·rw[iF xs ys q];simp only[cf,a]
    split<;>omega
   show (if kc y q=0 then x.n+y.n else 0)+cf (aJ xs ys) q=_;simp only[cf,iF xs ys q,a]
   split<;>omega
termination_by xs ys=>xs.length+ys.length
theorem dj:∀ {xs ys:List Pt} {p:Pt},p∈aJ xs ys->(∃q∈xs,kc q p=0)\/(∃q∈ys,kc q p=0)
 | [],ys,p,h=>by rw[aJ] at h;exact .inr ⟨p,h,bi p⟩
 | x::xs,[],p,h=>by rw[aJ] at h;exact .inl ⟨p,h,bi p⟩
 | x::xs,y::ys,p,h=>by
   rw[aJ] at h;have up:((∃q∈xs,kc q p=0)\/(∃q∈ys,kc q p=0))->(∃q∈x::xs,kc q p=0)\/(∃q∈y::ys,kc q p=0):=by
    rintro(⟨q,a,b⟩ | ⟨q,a,b⟩)
    ·exact .inl ⟨q,by simp[a],b⟩
    exact .inr ⟨q,by simp[a],b⟩
   split at h
   ·rcases Db.1 h with rfl | h
    ·exact .inl ⟨p,by simp,bi p⟩
    rcases dj h with ⟨q,a,b⟩ | a
    ·exact .inl ⟨q,by simp[a],b⟩
    exact .inr a
   split at h
   ·rcases Db.1 h with rfl | h
    ·exact .inr ⟨p,by simp,bi p⟩
    rcases dj h with a | ⟨q,a,b⟩
    ·exact .inl a
    exact .inr ⟨q,by simp[a],b⟩
   split at h
   ·exact up (dj h)
   rcases Db.1 h with rfl | h
   ·exact .inr ⟨y,by simp,bi y⟩
   exact up (dj h)
termination_by xs ys=>xs.length+ys.length
theorem mq {p q r:Pt} (h:kc p q=0):kc p r=kc q r:=(j6 p q r).2.1 h
theorem dK {p q r:Pt} (h:kc q r=0):kc p r=kc p q:=(j6 p q r).2.2 h
theorem eK:∀ {xs ys:List Pt},Srt xs->Srt ys->Srt (aJ xs ys)
 | [],ys,_,h=>by rw[aJ];exact h
 | x::xs,[],h,_=>by rw[aJ];exact h
 | x::xs,y::ys,hx,hy=>by
   have e:=hx;have f:=hy;unfold Srt at hx hy;rw[DJ] at hx hy;have i:=ij x y;rw[aJ]
   split
   ·rename_i hc;refine DJ.2 ⟨fun z d=>?_,eK hx.2 f⟩;rcases dj d with ⟨q,a,b⟩ | ⟨q,a,b⟩
    ·rw[dK b];exact hx.1 q a
    rw[dK b];rcases Db.1 a with rfl | a
    ·exact hc
    exact fF hc (hy.1 q a)
   split
   ·rename_i _ hc;have c:kc y x<0:=by omega
    refine DJ.2 ⟨fun z d=>?_,eK e hy.2⟩;rcases dj d with ⟨q,a,b⟩ | ⟨q,a,b⟩
    ·rw[dK b];rcases Db.1 a with rfl | a
     ·exact c
     exact fF c (hx.1 q a)
    rw[dK b];exact hy.1 q a
   have g:kc x y=0:=by omega
   split
   ·exact eK hx.2 hy.2
   refine DJ.2 ⟨fun z d=>?_,eK hx.2 hy.2⟩;rw[zh];rcases dj d with ⟨q,a,b⟩ | ⟨q,a,b⟩
   ·rw[dK b,<-mq g];exact hx.1 q a
   rw[dK b];exact hy.1 q a
termination_by xs ys=>xs.length+ys.length
theorem ge:∀ {xs ys:List Pt},(∀p∈xs,p.n≠0)->(∀p∈ys,p.n≠0)->∀p∈aJ xs ys,p.n≠0
 | [],ys,_,h=>by rw[aJ];exact h
 | x::xs,[],h,_=>by rw[aJ];exact h
 | x::xs,y::ys,hx,hy=>by
   intro p a;have b:∀p∈xs,p.n≠0:=fun p a=>hx p (by simp[a]);have c:∀p∈ys,p.n≠0:=fun p a=>hy p (by simp[a]);rw[aJ] at a
   split at a
   ·rcases Db.1 a with rfl | a
    ·exact hx _ (by simp)
    exact ge b hy p a
   split at a
   ·rcases Db.1 a with rfl | a
    ·exact hy _ (by simp)
    exact ge hx c p a
   split at a
   ·exact ge b c p a
   rcases Db.1 a with rfl | a
   ·assumption
   exact ge b c p a
termination_by xs ys=>xs.length+ys.length
theorem fR:∀(xs ys:List Pt),(aJ xs ys).length<=xs.length+ys.length
 | [],ys=>by simp[aJ]
 | x::xs,[]=>by simp[aJ]
 | x::xs,y::ys=>by
   have a:=fR xs (y::ys);have b:=fR (x::xs) ys;have c:=fR xs ys;rw[aJ];simp only[Dj] at*
   split
   ·simp only[Dj];omega
   split
   ·simp only[Dj];omega
   split
   ·omega
   simp only[Dj];omega
termination_by xs ys=>xs.length+ys.length
theorem kI {Q:Pt->Prop} (c:∀p n,Q p->Q (p.wn n)) {xs ys:List Pt} (e:∀p∈xs,Q p) (f:∀p∈ys,Q p):∀p∈aJ xs ys,Q p:=by
 intro p d;rcases dj d with ⟨q,a,b⟩ | ⟨q,a,b⟩
 ·rw[fo b];exact c _ _ (e q a)
 rw[fo b];exact c _ _ (f q a)
def bG:List Pt->Pt->List Pt
 | [],p=>[p]
 | x::l,p=>if kc x p=0 then (if x.n+p.n=0 then l else x.wn (x.n+p.n)::l) else if 0<kc x p then p::x::l else x::bG l p
theorem io:∀ {l:List Pt} {p q:Pt},q∈bG l p->(∃x∈l,kc x q=0)\/kc p q=0
 | [],p,q,h=>by simp only[bG,CZ] at h;subst h;exact .inr (bi _)
 | x::l,p,q,h=>by
   unfold bG at h
   split at h
   ·split at h
    ·exact .inl ⟨q,by simp[h],bi q⟩
    rcases Db.1 h with rfl | h
    ·exact .inl ⟨x,by simp,bi x⟩
    exact .inl ⟨q,by simp[h],bi q⟩
   split at h
   ·rcases Db.1 h with rfl | h
    ·exact .inr (bi _)
    exact .inl ⟨q,h,bi q⟩
   rcases Db.1 h with rfl | h
   ·exact .inl ⟨q,by simp,bi q⟩
   rcases io h with ⟨y,a,b⟩ | a
   ·exact .inl ⟨y,by simp[a],b⟩
   exact .inr a
theorem nM:∀ {l:List Pt} {p:Pt},Srt l->Srt (bG l p)
 | [],p,_=>List.pairwise_singleton _ _
 | x::l,p,h=>by
   have c:=h;unfold Srt at h;rw[DJ] at h;unfold bG
   split
   ·split
    ·exact h.2
    exact DJ.2 ⟨fun z a=>h.1 z a,h.2⟩
   have e:=ij x p
   split
   ·refine DJ.2 ⟨fun z a=>?_,c⟩;rcases Db.1 a with rfl | a
    ·omega
    exact fF (q:=x) (by omega) (h.1 z a)
   refine DJ.2 ⟨fun z a=>?_,nM h.2⟩;rcases io a with ⟨y,b,d⟩ | b
   ·rw[dK d];exact h.1 y b
   rw[dK b];omega
theorem mt:∀ {l:List Pt} {p:Pt},(∀x∈l,x.n≠0)->p.n≠0->∀x∈bG l p,x.n≠0
 | [],p,_,hp=>by simp[bG,hp]
 | x::l,p,h,hp=>by
   intro y a;unfold bG at a
   split at a
   ·split at a
    ·exact h y (by simp[a])
    rcases Db.1 a with rfl | a
    ·assumption
    exact h y (by simp[a])
   split at a
   ·rcases Db.1 a with rfl | a
    ·exact hp
    exact h y a
   rcases Db.1 a with rfl | a
   ·exact h y (by simp)
   exact mt (fun z b=>h z (by simp[b])) hp y a
theorem ra:∀(l:List Pt) (p q:Pt),cf (bG l p) q=cf l q+(if kc p q=0 then p.n else 0)
 | [],p,q=>by simp[bG,cf]
 | x::l,p,q=>by
   unfold bG
   split
   ·rename_i h0;have a:kc x q=kc p q:=mq h0
    split
    ·simp only[cf,a];split<;>omega
    show (if kc x q=0 then x.n+p.n else 0)+cf l q=_;simp only[cf,a]
    split<;>omega
   split
   ·simp only[cf];omega
   simp only[cf,ra l p q];omega
theorem vU:∀ {ys xs:List Pt},Srt xs->Srt ys->(∀p∈xs,p.n≠0)->(∀p∈ys,p.n≠0)->ys.foldl bG xs=aJ xs ys:=by
 intro ys xs i m j k;have g:∀(a xs:List Pt),Srt xs->(∀p∈xs,p.n≠0)->(∀p∈a,p.n≠0)->Srt (a.foldl bG xs)/\(∀p∈a.foldl bG xs,p.n≠0)/\∀q,cf (a.foldl bG xs) q=cf xs q+cf a q:=by
  intro a
  induction a with
  | nil=>intro xs b c _;exact⟨b,c,fun q=>by simp[cf]⟩
  | cons z a ih=>
   intro xs b c h;obtain⟨d,e,f⟩:=ih (bG xs z) (nM b) (mt c (h z (by simp))) (fun p l=>h p (by simp[l]));refine⟨d,e,fun q=>?_⟩;rw[List.foldl_cons,f q,ra];simp only[cf];omega
 obtain⟨d,e,f⟩:=g ys xs i j k;exact Srt.ext d (eK i m) e (ge j k) (fun q=>by rw[f,iF])
end Go.Proofs.YtldmkbhgdbafhaaGreat
