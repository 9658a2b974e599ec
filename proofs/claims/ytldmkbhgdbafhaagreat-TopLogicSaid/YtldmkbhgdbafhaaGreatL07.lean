import Derived.Outline
import Derived.Test.YtldmkbhgdbafhaaGreatProg
import Derived.Test.YtldmkbhgdbafhaaGreatL06
namespace Go.Proofs.YtldmkbhgdbafhaaGreat
open Go.RowKit
set_option linter.unusedSimpArgs false
set_option linter.unusedVariables false
set_option maxRecDepth 100000
set_option maxHeartbeats 64000000
section
section
variable {α:Type} {f:α->Tr} {k:Nat} {e:TypeId} {D:Nat->Prop} {B0:Nat} {w w' W0:World} {X:List Nat}
theorem rx {P:Program} (t H:Nat) (bytes:Nat) (z:Value) (Y:P.underlying t=some (.slice e)) (b:(P.info? e).map (fun i=>(i.zero,i.size,i.bytes))=some (some z,k,bytes))
 (v:z.cells.size=k) (r:0<k) {A:Option Addr} {c:Nat} {L:List α} (M:List α) (N:af f k e D W0.heap.size w A c L) (j:ad X W0 w)
 (B:Option Addr) (m d:Nat) (s:m=M.length) (a:List Value) (R:a.length=m*k) (K:cH w B m a) (C:Is w (fun g=>D g/\(Value.slice A L.length c).ownBlock≠some g) (cat f M) a) (O:(L.length+m)*bytes<=140737488355328) (S:L.length+m<=maxLen):
 ∃o p w',(Builtin.append_ #[t,t] H #[.slice A L.length c,.slice B m d]).run P w=.ok (.slice o (L.length+m) p) w'/\af f k e D W0.heap.size w' o p (L++M)/\ad X W0 w'/\w.grownBy w' (Value.slice A L.length c).ownBlock:=by
  subst s;obtain⟨⟨cs,y,J⟩,h3,h4⟩:=N;cases u:P.info? e with
  | none=>simp[u] at b
  | some i=>
   simp only[u,EM,Option.some.injEq,Prod.mk.injEq] at b;obtain⟨hz,W,q⟩:=b;obtain⟨v',w',T,F,x,q3,q4⟩:=dg (P:=P) (w:=w) t H W0.heap.size e i z k bytes Y u hz W q v r _ L.length cs y B M.length d a R K C.one S O j.size;obtain⟨o,p,rfl,m1,m2⟩:=bS F;have h:(L++M).length=L.length+M.length:=by simp
   refine⟨o,p,w',T,⟨⟨cs++a,by rw[h];exact F,?_⟩,by rw[h];exact m1,m2⟩,?_,x⟩
   ·rw[h,eX];exact jD J C x q4
   have n:ad (Value.slice A L.length c).ownBlock.toList w w':=ad.grown x (fun k Q=>by rw[Q];simp);refine⟨n.os.trans j.os,n.tape.trans j.tape,n.output.trans j.output,Dc j.size n.size,fun g E hx=>(n.block g (Dr E j.size) (fun l=>?_)).trans (j.block g E hx)⟩;rw[D8] at l;have:=(cz y l).1;omega
theorem da {P:Program} {l:Array Oper} {rest:List Oper} {o:Oper} {a:Act} {Q:Exit->Act->World->Prop} (r:Region.wanted o (yielded l a.tmps)=true) (s x:Operand) (t:TypeId)
 (R:o.op=.call { callee:=.builtin .append,args:=#[s,x],argTypes:=#[t,t] }) (bytes:Nat) (z:Value) (W:P.underlying t=some (.slice e)) (j:(P.info? e).map (fun i=>(i.zero,i.size,i.bytes))=some (some z,k,bytes))
 (y:z.cells.size=k) (u:0<k) {A:Option Addr} {c:Nat} {L:List α} (M:List α) (E:af f k e D W0.heap.size w A c L) (H:ad X W0 w) (T:a.eval s=.slice A L.length c)
 (B:Option Addr) (m d:Nat) (v:m=M.length) (b:List Value) (Y:a.eval x=.slice B m d) (N:b.length=m*k) (C:cH w B m b) (F:Is w (fun g=>D g/\(Value.slice A L.length c).ownBlock≠some g) (cat f M) b) (J:(L.length+m)*bytes<=140737488355328) (O:L.length+m<=maxLen)
 (h:∀n p w',Z (af f k e D W0.heap.size w' n p (L++M))->Z (ad X W0 w')->Z (w.grownBy w' (Value.slice A L.length c).ownBlock)->wpList P l Q rest (a.put o.dst (.slice n (L.length+m) p)) w'):wpList P l Q (o::rest) a w:=by
  refine cR r fun K q=>?_;obtain⟨n,p,w',S,q1,q2,q3⟩:=rx (P:=P) t o.type bytes z W j y u M E H B m d v b N C F J O;unfold Oper.wp execOp;simp only[R,resolve,invoke,builtin,DM,DZ,DH,Eb,D1,Er,T,Y,S];exact q _ _ (h n p w' (bZ q1) (bZ q2) (bZ q3))
theorem fH {w w':World} {A:Option Addr} {c n:Nat} {g:Nat} {t:TypeId} {cs:Array Value} (b:Blk w g t cs) (d:w.grownBy w' (Value.slice A n c).ownBlock) (a:(Value.slice A n c).ownBlock≠some g):Blk w' g t cs:=
 b.keep (ad.grown (X:=(Value.slice A n c).ownBlock.toList) d (fun k e=>by rw[e];simp)) (fun h=>a (D8.1 h))
end
end
section
def Lt.tr (x:Lt):Tr:=.v (I x.a.kd) (.v (I x.a.v) (.v (I x.a.o) (.v (I x.a.t.con) (.sl 5 x.a.t.tr (.v (I x.a.te.v) (.v (I x.a.te.kd) (.v (.bool x.a.te.ng) (.v (.string x.a.te.s) (.v (.bool x.up) .nil)))))))))
theorem Lt.tr_len (x:Lt):x.tr.len=10:=rfl
def ltL (x:Lt) (b:Option Addr) (c:Nat):List Value:=[I x.a.kd,I x.a.v,I x.a.o,I x.a.t.con,.slice b x.a.t.pts.length c,I x.a.te.v,I x.a.te.kd,.bool x.a.te.ng,.string x.a.te.s,.bool x.up]
def cK (a:List Lt):Tr:=.sl 10 (cat Lt.tr a) .nil
theorem iD (a:List Lt):(cK a).len=1:=rfl
section
variable {w w':World} {C D:Nat->Prop}
theorem xt {x:Lt} {cs:List Value}:Is w C x.tr cs↔∃c d,cs=ltL x c d/\cP w C x.a c d:=by
 constructor
 ·rintro⟨_,rfl,_,_,rfl,_,_,rfl,_,_,rfl,_,c,j,d,b,_,rfl,i,e,f,g,h,_,rfl,_,_,rfl,_,_,rfl,_,_,rfl,_,_,rfl,_,rfl⟩;obtain rfl:j=x.a.t.pts.length:=by rw[T.tr_len] at i;omega
  exact⟨c,d,rfl,⟨e,f⟩,b,g,h⟩
 rintro⟨c,d,rfl,⟨e,f⟩,b,g,h⟩;exact⟨_,rfl,rfl,_,rfl,rfl,_,rfl,rfl,_,rfl,rfl,c,_,d,b,_,rfl,by rw[T.tr_len],e,f,g,h,_,rfl,rfl,_,rfl,rfl,_,rfl,rfl,_,rfl,rfl,_,rfl,rfl,rfl⟩
theorem lL {b:List Lt} {cs:List Value}:Is w C (cK b) cs↔∃A c,cs=[.slice A b.length c]/\b.length<=c/\c<=maxLen/\ag Lt.tr w C A b:=by
 constructor
 ·rintro⟨A,n,c,h,_,rfl,i,d,e,f,g,rfl⟩;obtain rfl:n=b.length:=by rw[bF Lt.tr_len] at i;omega
  exact⟨A,c,rfl,d,e,h,f,g⟩
 rintro⟨A,c,rfl,d,e,h,f,g⟩;exact⟨A,_,c,h,_,rfl,bF Lt.tr_len b,d,e,f,g,rfl⟩
end
def bh (e:Int×Int):Tr:=.v (I e.1) (.v (I e.2) .nil)
def kQ (x:Ax):Tr:=.v (I x.of.k) (.sl 2 (cat bh x.of.cs) (.v (I x.b) (.v (I x.x) .nil)))
def mr (e:Lin×Bool):Tr:=.v (I e.1.k) (.sl 2 (cat bh e.1.cs) (.v (.bool e.2) .nil))
def lW (t:Ts):Tr:=.v (I t.v) (.v (I t.kd) (.v (.bool t.ng) (.v (.string t.s) .nil)))
theorem aV (e:Int×Int):(bh e).len=2:=rfl
theorem fO (x:Ax):(kQ x).len=4:=rfl
theorem il (e:Lin×Bool):(mr e).len=3:=rfl
theorem gU (t:Ts):(lW t).len=4:=rfl
section
variable {w w':World} {C D:Nat->Prop}
theorem eD {e:Int×Int} {cs:List Value}:Is w C (bh e) cs↔cs=[I e.1,I e.2]:=by
 constructor
 ·rintro⟨_,rfl,_,_,rfl,_,rfl⟩;rfl
 rintro rfl;exact⟨_,rfl,rfl,_,rfl,rfl,rfl⟩
theorem sw {t:Ts} {cs:List Value}:Is w C (lW t) cs↔cs=[I t.v,I t.kd,.bool t.ng,.string t.s]:=by
 constructor
 ·rintro⟨_,rfl,_,_,rfl,_,_,rfl,_,_,rfl,_,rfl⟩;rfl
 rintro rfl;exact⟨_,rfl,rfl,_,rfl,rfl,_,rfl,rfl,_,rfl,rfl,rfl⟩
theorem rj {x:Ax} {cs:List Value}:Is w C (kQ x) cs↔∃A c,cs=[I x.of.k,.slice A x.of.cs.length c,I x.b,I x.x]/\x.of.cs.length<=c/\c<=maxLen/\ag bh w C A x.of.cs:=by
 constructor
 ·rintro⟨_,rfl,_,A,n,c,g,_,rfl,h,a,d,e,f,_,rfl,_,_,rfl,_,rfl⟩;obtain rfl:n=x.of.cs.length:=by rw[bF aV] at h;omega
  exact⟨A,c,rfl,a,d,g,e,f⟩
 rintro⟨A,c,rfl,a,d,g,e,f⟩;exact⟨_,rfl,rfl,A,_,c,g,_,rfl,bF aV _,a,d,e,f,_,rfl,rfl,_,rfl,rfl,rfl⟩
theorem pL {e:Lin×Bool} {cs:List Value}:Is w C (mr e) cs↔∃A c,cs=[I e.1.k,.slice A e.1.cs.length c,.bool e.2]/\e.1.cs.length<=c/\c<=maxLen/\ag bh w C A e.1.cs:=by
 constructor
 ·rintro⟨_,rfl,_,A,n,c,h,_,rfl,i,b,d,f,g,_,rfl,_,rfl⟩;obtain rfl:n=e.1.cs.length:=by rw[bF aV] at i;omega
  exact⟨A,c,rfl,b,d,h,f,g⟩
 rintro⟨A,c,rfl,b,d,h,f,g⟩;exact⟨_,rfl,rfl,A,_,c,h,_,rfl,bF aV _,b,d,f,g,_,rfl,rfl,rfl⟩
end
structure Sv where
 A0:Option Addr
 c0:Nat
 A1:Option Addr
 c1:Nat
 A2:Option Addr
 c2:Nat
 A3:Option Addr
 c3:Nat
 A4:Option Addr
 c4:Nat
 A5:Option Addr
 c5:Nat
 A6:Option Addr
 c6:Nat
def sv0:Sv:=⟨none,0,none,0,none,0,none,0,none,0,none,0,none,0⟩
def clL (c:Cla) (s:Sv):List Value:=[.slice s.A0 c.nul.length s.c0,.slice s.A1 c.nn.length s.c1,.slice s.A2 c.ax.length s.c2,.slice s.A3 c.is.length s.c3,.slice s.A4 c.ts.length s.c4,.slice s.A5 c.sm.length s.c5,.slice s.A6 c.df.length s.c6]
def fe (c:Cla):Tr:=.sl 1 (cat a8 c.nul) (.sl 1 (cat a8 c.nn) (.sl 4 (cat kQ c.ax) (.sl 3 (cat mr c.is) (.sl 4 (cat lW c.ts) (.sl 2 (cat bh c.sm) (.sl 2 (cat bh c.df) .nil))))))
theorem r9 (c:Cla):(fe c).len=7:=rfl
structure er (w:World) (C:Nat->Prop) (c:Cla) (s:Sv):Prop where
 m0:c.nul.length<=s.c0/\s.c0<=maxLen
 r0:ag a8 w C s.A0 c.nul
 m1:c.nn.length<=s.c1/\s.c1<=maxLen
 r1:ag a8 w C s.A1 c.nn
 m2:c.ax.length<=s.c2/\s.c2<=maxLen
 r2:ag kQ w C s.A2 c.ax
 m3:c.is.length<=s.c3/\s.c3<=maxLen
 r3:ag mr w C s.A3 c.is
 m4:c.ts.length<=s.c4/\s.c4<=maxLen
 r4:ag lW w C s.A4 c.ts
 m5:c.sm.length<=s.c5/\s.c5<=maxLen
 r5:ag bh w C s.A5 c.sm
 m6:c.df.length<=s.c6/\s.c6<=maxLen
 r6:ag bh w C s.A6 c.df
section
variable {w w':World} {C D:Nat->Prop} {c:Cla} {s:Sv} {Y:List Nat}
theorem er.keep0 (h:er w C c s) (a:ad [] w w'):er w' C c s:=
 ⟨h.m0,h.r0.keep0 a,h.m1,h.r1.keep0 a,h.m2,h.r2.keep0 a,h.m3,h.r3.keep0 a,h.m4,h.r4.keep0 a,h.m5,h.r5.keep0 a,h.m6,h.r6.keep0 a⟩
theorem er.mono (h:er w C c s) (a:∀g,g<w.heap.size->C g->D g):er w D c s:=
 ⟨h.m0,h.r0.mono a,h.m1,h.r1.mono a,h.m2,h.r2.mono a,h.m3,h.r3.mono a,h.m4,h.r4.mono a,h.m5,h.r5.mono a,h.m6,h.r6.mono a⟩
theorem ed {α:Type} {f:α->Tr} {k:Nat} (i:∀x,(f x).len=k) (j:0<k) {l:List α} {r:Tr} {cs:List Value}:Is w C (.sl k (cat f l) r) cs↔∃A m cs',cs=.slice A l.length m::cs'/\(l.length<=m/\m<=maxLen)/\ag f w C A l/\Is w C r cs':=by
 constructor
 ·rintro⟨A,n,m,g,cs',rfl,h,a,b,c,d,e⟩;obtain rfl:n=l.length:=by rw[bF i] at h;exact(Nat.eq_of_mul_eq_mul_right j h).symm
  exact⟨A,m,cs',rfl,⟨a,b⟩,⟨g,c,d⟩,e⟩
 rintro⟨A,m,cs',rfl,⟨a,b⟩,⟨g,c,d⟩,e⟩;exact⟨A,_,m,g,cs',rfl,bF i l,a,b,c,d,e⟩
theorem uu {cs:List Value}:Is w C (fe c) cs↔∃s,cs=clL c s/\er w C c s:=by
 unfold fe;constructor
 ·intro h;obtain⟨o,x,cs,rfl,a,r0,h⟩:=(ed bN (by decide)).1 h;obtain⟨p,y,cs,rfl,b,r1,h⟩:=(ed bN (by decide)).1 h;obtain⟨q,z,cs,rfl,d,j,h⟩:=(ed fO (by decide)).1 h;obtain⟨r,A,cs,rfl,e,k,h⟩:=(ed il (by decide)).1 h;obtain⟨t,B,cs,rfl,f,l,h⟩:=(ed gU (by decide)).1 h;obtain⟨u,D,cs,rfl,g,m,h⟩:=(ed aV (by decide)).1 h;obtain⟨v,E,cs,rfl,i,n,h⟩:=(ed aV (by decide)).1 h;obtain rfl:cs=[]:=h;exact⟨⟨o,x,p,y,q,z,r,A,t,B,u,D,v,E⟩,rfl,⟨a,r0,b,r1,d,j,e,k,f,l,g,m,i,n⟩⟩
 rintro⟨s,rfl,⟨a,r0,b,r1,d,j,e,k,f,l,g,m,i,n⟩⟩;exact(ed bN (by decide)).2 ⟨_,_,_,rfl,a,r0,(ed bN (by decide)).2 ⟨_,_,_,rfl,b,r1,(ed fO (by decide)).2 ⟨_,_,_,rfl,d,j,(ed il (by decide)).2 ⟨_,_,_,rfl,e,k,
  (ed gU (by decide)).2 ⟨_,_,_,rfl,f,l,(ed aV (by decide)).2 ⟨_,_,_,rfl,g,m,(ed aV (by decide)).2 ⟨_,_,_,rfl,i,n,rfl⟩⟩⟩⟩⟩⟩⟩
end
def CaP (w:World) (C:Nat->Prop) (c:Cla) (e:Ending) (w':World):Prop:=∃s,e=.returned (.agg (clL c s).toArray)/\Z (er w' C c s)/\Z (ad [] w w')
end
section
def xc (o i:Int) (v:Vl) (b a:ByteArray) (A:Option Addr) (n c:Nat):List Value:=[I o,.string b,.string a,I i,I v.k,I v.n,.string v.s,.slice A n c]
def xv (o i:Int) (v:Vl) (b a:ByteArray) (A:Option Addr) (n c:Nat):Value:=.agg #[I o,.string b,.string a,I i,I v.k,I v.n,.string v.s,.slice A n c]
def E.ar:E->Nat
 | .z .. =>0
 | .a .. =>1
 | .b .. =>2
 | .many .. =>3
def aY (w:World) (C:Nat->Prop):E->Option Addr->Nat->Prop
 | .z _ _ _,A,n=>n=0/\True
 | .a _ _ _ x,A,n=>n=1/\∃h f B m c,eM w C A (xc x.op x.ix x.lit h f B m c)/\m<=c/\c<=maxLen/\aY w C x B m
 | .b _ _ _ x y,A,n=>n=2/\∃h f B m c i g j e d,eM w C A (xc x.op x.ix x.lit h f B m c++xc y.op y.ix y.lit i g j e d)/\m<=c/\c<=maxLen/\aY w C x B m/\e<=d/\d<=maxLen/\aY w C y j e
 | .many _ _ _,A,n=>3<=n
section
variable {w w':World} {C D:Nat->Prop} {Y:List Nat}
theorem aY.keep:∀ {e:E} {A:Option Addr} {n:Nat},aY w C e A n->ad Y w w'->(∀y∈Y,¬C y)->aY w' C e A n
 | .z ..,_,_,h,_,_=>h
 | .a ..,_,_,⟨h0,tb,nm,B,m,c,h1,h2,h3,h4⟩,hk,hY=>⟨h0,tb,nm,B,m,c,h1.keep hk hY,h2,h3,h4.keep hk hY⟩
 | .b ..,_,_,⟨h0,tb,nm,B,m,c,tb',nm',B',m',c',h1,h2,h3,h4,h5,h6,h7⟩,hk,hY=>⟨h0,tb,nm,B,m,c,tb',nm',B',m',c',h1.keep hk hY,h2,h3,h4.keep hk hY,h5,h6,h7.keep hk hY⟩
 | .many ..,_,_,h,_,_=>h
theorem aY.keep0 {e:E} {A:Option Addr} {n:Nat} (h:aY w C e A n) (a:ad [] w w'):aY w' C e A n:=h.keep a (by simp)
theorem aY.mono:∀ {e:E} {A:Option Addr} {n:Nat},aY w C e A n->(∀g,g<w.heap.size->C g->D g)->aY w D e A n
 | .z ..,_,_,h,_=>h
 | .a ..,_,_,⟨h0,tb,nm,B,m,c,h1,h2,h3,h4⟩,hC=>⟨h0,tb,nm,B,m,c,h1.mono hC,h2,h3,h4.mono hC⟩
 | .b ..,_,_,⟨h0,tb,nm,B,m,c,tb',nm',B',m',c',h1,h2,h3,h4,h5,h6,h7⟩,hC=>⟨h0,tb,nm,B,m,c,tb',nm',B',m',c',h1.mono hC,h2,h3,h4.mono hC,h5,h6,h7.mono hC⟩
 | .many ..,_,_,h,_=>h
theorem aY.ar:∀ {e:E} {A:Option Addr} {n:Nat},aY w C e A n->min n 3=e.ar
 | .z ..,_,_,h=>by rw[h.1];rfl
 | .a ..,_,_,h=>by rw[h.1];rfl
 | .b ..,_,_,h=>by rw[h.1];rfl
 | .many ..,_,_,h=>by have:3<=_:=h;simp only[E.ar];omega
theorem aY.one {o i:Int} {v:Vl} {x:E} {A:Option Addr} {n:Nat} (h:aY w C (.a o i v x) A n):n=1/\∃g b e d B m c,A=some (U g b)/\C g/\g<w.heap.size/\m<=c/\c<=maxLen/\aY w C x B m/\∀j u,(xc x.op x.ix x.lit e d B m c)[j]? =some u->w.cell? (U g (b+j))=some u:=by
 obtain⟨f,e,d,B,m,c,k,l,p,q⟩:=h;obtain⟨g,b,r,s,y,t⟩:=k.2.at_ (by simp[xc]);exact⟨f,g,b,e,d,B,m,c,r,s,y,l,p,q,t⟩
theorem aY.two {o i:Int} {v:Vl} {x y:E} {A:Option Addr} {n:Nat} (h:aY w C (.b o i v x y) A n):n=2/\∃g a r q B m c e d l k f,A=some (U g a)/\C g/\g<w.heap.size/\m<=c/\c<=maxLen/\aY w C x B m/\k<=f/\f<=maxLen/\aY w C y l k/\
 (∀j u,(xc x.op x.ix x.lit r q B m c)[j]? =some u->w.cell? (U g (a+j))=some u)/\(∀j u,(xc y.op y.ix y.lit e d l k f)[j]? =some u->w.cell? (U g (a+8+j))=some u):=by
  obtain⟨t,r,q,B,m,c,e,d,l,k,f,z,D,F,H,J,K,L⟩:=h;obtain⟨g,a,M,N,O,s⟩:=z.2.at_ (by simp[xc]);refine⟨t,g,a,r,q,B,m,c,e,d,l,k,f,M,N,O,D,F,H,J,K,L,fun j u p=>s j u ?_,fun j u p=>?_⟩
  ·rw[DC (CV.1 p).1];exact p
  have:=s (8+j) u (by rw[Dv (by simp[xc])];simpa [xc] using p);rw[show a+8+j=a+(8+j) by omega];exact this
end
end
section
def RoP (w:World) (v:Value) (e:Ending) (w':World):Prop:=e=.returned v/\Z (ad [] w w')
def E.ok2:E->Bool
 | .z .. =>true
 | .a _ _ _ x=>ok2 x
 | .b _ _ _ x y=>ok2 x && ok2 y
 | .many .. =>false
theorem cw:∀ {d:Nat} {e:E},e.short d=true->e.ok2=true
 | 0,e,h=>by cases e<;>cases h
 | d+1,.z ..,_=>rfl
 | d+1,.a _ _ _ x,h=>cw (d:=d) (e:=x) h
 | d+1,.b _ _ _ x y,h=>by
   simp only[E.short,Bool.and_eq_true] at h;simp only[E.ok2,Bool.and_eq_true];exact⟨cw h.1,cw h.2⟩
 | d+1,.many ..,h=>by cases h
theorem E.ind {P:E->Prop} (h:∀e,(∀x∈e.args,P x)->P e):∀e,P e
 | .z .. =>h _ (by simp[E.args])
 | .a o i v x=>h _ (by have c:=E.ind h x;intro y d;rw[CZ.1 d];exact c)
 | .b o i v x y=>h _ (by
     have c:=E.ind h x;have d:=E.ind h y;intro z f;simp only[E.args,Db,Dw,or_false] at f;rcases f with h | h
     ·rw[h];exact c
     rw[h];exact d)
 | .many .. =>h _ (by simp[E.args])
def E.nulH (e:E):Bool:=(e.op==1) && (e.lit.k==0)
theorem qG (e:E):e.null=(e.nulH || e.args.any E.null):=by
 cases e<;>simp[E.null,E.nulH,E.args,E.op,E.lit,Bool.or_assoc,BEq.beq]<;>rfl
theorem fP (e:E):e.args.length<=2:=by cases e<;>simp[E.args]
def aC (w:World) (g a:Nat) (x:E) (d b:ByteArray) (B:Option Addr) (m c:Nat):Prop:=
 w.cell? (U g a)=some (I x.op)/\w.cell? (U g (a+1))=some (.string d)/\w.cell? (U g (a+2))=some (.string b)/\w.cell? (U g (a+3))=some (I x.ix)/\
 w.cell? (U g (a+4))=some (I x.lit.k)/\w.cell? (U g (a+5))=some (I x.lit.n)/\w.cell? (U g (a+6))=some (.string x.lit.s)/\w.cell? (U g (a+7))=G B m c
structure XAt (w:World) (C:Nat->Prop) (g a:Nat) (x:E) (tb nm:ByteArray) (B:Option Addr) (m c:Nat):Prop where
 cells:aC w g a x tb nm B m c
 mc:m<=c
 cm:c<=maxLen
 ar:aY w C x B m
section
variable {w w':World} {C:Nat->Prop} {Y:List Nat}
theorem aC.keep {g a:Nat} {x:E} {f e:ByteArray} {B:Option Addr} {m c:Nat} (h:aC w g a x f e B m c) (d:ad Y w w') (b:g∉Y):aC w' g a x f e B m c:=by
 obtain⟨i,j,k,l,n,o,p,q⟩:=h;exact⟨d.cellEq i b,d.cellEq j b,d.cellEq k b,d.cellEq l b,d.cellEq n b,d.cellEq o b,d.cellEq p b,d.cellEq q b⟩
theorem XAt.keep0 {g a:Nat} {x:E} {e d:ByteArray} {B:Option Addr} {m c:Nat} (h:XAt w C g a x e d B m c) (b:ad [] w w'):XAt w' C g a x e d B m c:=
 ⟨h.cells.keep b (by simp),h.mc,h.cm,h.ar.keep0 b⟩
theorem aC.of {g a:Nat} {x:E} {d b:ByteArray} {B:Option Addr} {m c:Nat} (h:∀j u,(xc x.op x.ix x.lit d b B m c)[j]? =some u->w.cell? (U g (a+j))=some u):aC w g a x d b B m c:=
 ⟨h 0 _ rfl,h 1 _ rfl,h 2 _ rfl,h 3 _ rfl,h 4 _ rfl,h 5 _ rfl,h 6 _ rfl,h 7 _ rfl⟩
theorem aY.nlen {e:E} {A:Option Addr} {n:Nat} (h:aY w C e A n) (c:e.ok2=true):n=e.args.length:=by
 cases e with
 | z=>exact h.1
 | a=>exact h.1
 | b=>exact h.1
 | many=>cases c
theorem cT {e x:E} (c:e.ok2=true) (d:x∈e.args):x.ok2=true:=by
 cases e with
 | z=>cases d
 | a=>rw[CZ.1 d];exact c
 | b o i v y z=>
  simp only[E.ok2,Bool.and_eq_true] at c;simp only[E.args,Db,Dw,or_false] at d;rcases d with rfl | rfl
  ·exact c.1
  exact c.2
 | many=>cases c
theorem aY.get {e:E} {A:Option Addr} {n j:Nat} {x:E} (h:aY w C e A n) (f:e.args[j]? =some x):
 ∃g d l k B m c,A=some (U g d)/\C g/\g<w.heap.size/\XAt w C g (d+j*8) x l k B m c:=by
  cases e with
  | z=>simp[E.args] at f
  | a o i v y=>
   obtain⟨O,g,d,l,k,B,m,c,p,q,r,u,D,F,H⟩:=h.one;have J:j=0:=by
    have:=(CV.1 f).1;simp[E.args] at this;omega
   subst J;obtain rfl:y=x:=by simpa [E.args] using f
   exact⟨g,d,l,k,B,m,c,p,q,r,aC.of (by simpa using H),u,D,F⟩
  | b o i v y z=>
   obtain⟨O,g,d,l,k,B,m,c,L,K,M,R,N,p,q,r,u,D,F,H,P,Q,s,t⟩:=h.two;have J:j=0\/j=1:=by
    have:=(CV.1 f).1;simp[E.args] at this;omega
   rcases J with rfl | rfl
   ·obtain rfl:y=x:=by simpa [E.args] using f
    exact⟨g,d,l,k,B,m,c,p,q,r,aC.of (by simpa using s),u,D,F⟩
   obtain rfl:z=x:=by simpa [E.args] using f
   exact⟨g,d,L,K,M,R,N,p,q,r,aC.of (by simpa using t),H,P,Q⟩
  | many=>simp[E.args] at f
theorem aY.get1 {o i:Int} {v:Vl} {x:E} {A:Option Addr} {n:Nat} (h:aY w C (.a o i v x) A n):n=1/\∃g b e d B m c,A=some (U g b)/\C g/\g<w.heap.size/\XAt w C g b x e d B m c:=by
 obtain⟨f,g,b,e,d,B,m,c,j,k,l,p,q,r,s⟩:=h.one;exact⟨f,g,b,e,d,B,m,c,j,k,l,aC.of s,p,q,r⟩
theorem aY.get2 {o i:Int} {v:Vl} {x y:E} {A:Option Addr} {n:Nat} (h:aY w C (.b o i v x y) A n):n=2/\∃g a r q B m c e d f p j,A=some (U g a)/\C g/\g<w.heap.size/\XAt w C g a x r q B m c/\XAt w C g (a+8) y e d f p j:=by
 obtain⟨s,g,a,r,q,B,m,c,e,d,f,p,j,t,u,z,D,F,H,J,K,L,k,l⟩:=h.two;exact⟨s,g,a,r,q,B,m,c,e,d,f,p,j,t,u,z,⟨aC.of k,D,F,H⟩,⟨aC.of l,J,K,L⟩⟩
end
section
variable (o i:Int) (v:Vl) (x y:E)
theorem opz:(E.z o i v).op=o:=rfl
theorem opa:(E.a o i v x).op=o:=rfl
theorem opb:(E.b o i v x y).op=o:=rfl
theorem ixz:(E.z o i v).ix=i:=rfl
theorem ixa:(E.a o i v x).ix=i:=rfl
theorem ixb:(E.b o i v x y).ix=i:=rfl
theorem ltz:(E.z o i v).lit=v:=rfl
theorem lta:(E.a o i v x).lit=v:=rfl
theorem ltb:(E.b o i v x y).lit=v:=rfl
end
def exV (e:E) (b a:ByteArray) (A:Option Addr) (n c:Nat):Value:=.agg #[I e.op,.string b,.string a,I e.ix,I e.lit.k,I e.lit.n,.string e.lit.s,.slice A n c]
def exC (e:E) (b a:ByteArray) (A:Option Addr) (n c:Nat):Array Value:=#[I e.op,.string b,.string a,I e.ix,I e.lit.k,I e.lit.n,.string e.lit.s,.slice A n c]
end
theorem sF {α:Type} {l:List α} {f:α->Bool} {j:Nat} {x:α} (h:l[j]? =some x):(l.take (j+1)).any f=((l.take j).any f || f x):=by
 rw[Dq,h,E8];simp
theorem pq (C:Nat->Prop):∀(e:E) (w:World) (q p:ByteArray) (A:Option Addr) (n c:Nat),e.ok2=true->aY w C e A n->n<=c->c<=maxLen->
 Calls Tryz.prog 27 #[exV e q p A n c] w (RoP w (.bool e.null)):=by
  refine E.ind (fun e ih=>?_);intro w q p A n c X R a4 a1;have D:=R.nlen X;have a3:n<=2:=by rw[D];exact fP e
  obtain⟨W0,d⟩:∃W,W=w.alloc (.cells (exC e q p A n c) 26):=⟨_,rfl⟩;have M:ad [] w W0:=by rw[d];exact(ad.refl [] w).alloc _
  have z:Blk W0 w.heap.size 26 (exC e q p A n c):=by rw[d];exact Blk.new w 26 _
  have hR:Z (∀W,ad [] w W->∀j x,e.args[j]? =some x->∃g a q p B m c,A=some (U g a)/\aC W g (a+j*8) x q p B m c/\Z (∀F,ad [] w F->Calls Tryz.prog 27 #[exV x q p B m c] F (RoP F (.bool x.null)))):=bZ (fun W hW j x L=>by
   obtain⟨g,a,q,p,B,m,c,h1,h2,h3,P⟩:=R.get L;have hm:=CW L;exact⟨g,a,q,p,B,m,c,h1,(P.keep0 hW).cells,bZ (fun F S=>ih x hm F q p B m c (cT X hm) (P.ar.keep0 S) P.mc P.cm)⟩)
  have h:Z (e.null=(((e.op==1) && (e.lit.k==0)) || e.args.any E.null)):=bZ (qG e);obtain⟨O,K⟩:∃O,O=e.args:=⟨_,rfl⟩;rw[<-K] at hR h D;replace D:=bZ D;obtain⟨gb,v⟩:∃g,g=w.heap.size:=⟨_,rfl⟩;rw[<-v] at z;generalize e.null=N at*;replace z:=bZ z;replace M:=bZ M;unfold exV;unfold exC at d z;generalize e.op=o at*;generalize e.lit.k=lk at*;generalize e.lit.n=ln at*;generalize e.lit.s=ls at*;generalize e.ix=ix at*;clear K ih R X;have hq:∃b,b=((o==1) && (lk==0)):=⟨_,rfl⟩;obtain⟨b,u⟩:=hq;rw[<-u] at h;cases Y:(o==1)
  all_goals
   rw[Y] at u
   first
    | (rw[Bool.false_and] at u;subst u)
    | (rw[Bool.true_and] at u;replace u:=bZ u)
   go_enter Tryz.func27,Tryz.ntmps27;go_wp2_with fail;rw[<-d,<-v]
   try rw[<-u.o]
   clear d v;go_loopw [3,4] (fun s i wr=>∃j:Nat,j<=n/\i=I j/\Z (∃t,s=.bool t/\t=(_ || (O.take j).any E.null))/\Z (ad [] W0 wr)) (fun _ i _=>n - (intOf i).toNat)
   case atStart=>exact⟨0,C3 _,rfl,bZ ⟨_,rfl,by simp;rfl⟩,bZ (ad.refl _ _)⟩
   obtain⟨j,hj,rfl,hs,y⟩:=hrel;obtain⟨t,rfl,l⟩:=hs.o;obtain⟨Q,a0⟩:∃x,x=wr:=⟨_,rfl⟩;subst a0;by_cases T:j<n
   ·obtain⟨x,L⟩:∃x,O[j]? =some x:=⟨O[j]'(by rw[<-D.o];exact T),CT _⟩;obtain⟨g,a,a6,a5,B,m,c',rfl,⟨x0,x1,x2,x3,x4,x5,x6,x7⟩,HC⟩:=hR.o Q (M.o.trans y.o) j x L;have y7:Q.cell? (U gb 7)=G (some (U g a)) n c:=(z.o.keep y.o (by simp)).cell 7;have wj:IntKind.i64.wrap ((j:Int)+1)=(j:Int)+1:=C0 _ (by omega);have a2:(j:Int)<(n:Int):=by omega
    have J:=bZ (sF (f:=E.null) L);have r:=HC.o Q (M.o.trans y.o);unfold exV at r;replace r:=bZ r;cases H:t
    ·rw[H] at l;replace l:=bZ l;generalize x.null=xn at*;go_wp2_with (go_at_call 27;refine r.o.mono ?_;rintro e w' ⟨rfl,kk⟩);go_roundw
     case rel=>exact⟨j+1,by omega,by go_num,bZ ⟨_,rfl,by rw[J.o,<-Bool.or_assoc,<-l.o];rfl⟩,bZ (y.o.trans kk.o)⟩
     case measure=>simp[intOf];omega
    rw[H] at l;replace l:=bZ l;go_wp2_with fail;go_roundw
    case rel=>exact⟨j+1,by omega,by go_num,bZ ⟨_,rfl,by rw[J.o,<-Bool.or_assoc,<-l.o];rfl⟩,y⟩
    case measure=>simp[intOf];omega
   obtain rfl:j=n:=by omega
   have y7:Q.cell? (U gb 7)=G A j c:=(z.o.keep y.o (by simp)).cell 7;have hr:Z (t=N):=bZ (by rw[h.o,l,D.o,List.take_length]);clear l;go_wp2_with fail;go_ret;exact⟨by rw[hr.o];rfl,bZ (M.o.trans y.o)⟩
def bR (w:World) (L:Option Addr) (l:List Vb):Prop:=∀(j:Nat) x,l[j]? =some x->∃g off,L=some (U g off)/\w.cell? (U g (off+j*5))=some (I x.ty)/\w.cell? (U g (off+j*5+1))=some (I x.low)/\
 w.cell? (U g (off+j*5+2))=some (I x.high)/\w.cell? (U g (off+j*5+3))=some (I x.max)/\w.cell? (U g (off+j*5+4))=some (.bool x.nl)
theorem bR.keep0 {w c:World} {L:Option Addr} {l:List Vb} (h:bR w L l) (a:ad [] w c):bR c L l:=fun j x n=>by
 obtain⟨g,b,d,e,f,i,k,m⟩:=h j x n;exact⟨g,b,d,a.cellEq e (by simp),a.cellEq f (by simp),a.cellEq i (by simp),a.cellEq k (by simp),a.cellEq m (by simp)⟩
theorem iP {l:List Vb} {j:Nat} {kd:Int} {x:Vb} (h:l[j]? =some x):aK l (j:Int) kd=(x.ty==kd):=by
 unfold aK;simp only[EH,h];rw[decide_eq_true (by omega:(0:Int)<=j),Bool.true_and];rfl
theorem dT {l:List Vb} {v kd:Int} (h:¬(0<=v/\v<(l.length:Int))):aK l v kd=false:=by
 unfold aK;by_cases a:0<=v
 ·rw[D9 (by omega)];simp
 rw[decide_eq_false a];rfl
theorem fS (w:World) (v kd:Int) (L:Option Addr) (c:Nat) (l:List Vb) (n:Nat) (a:n=l.length) (d:bR w L l):Calls Tryz.prog 77 #[I v,I kd,.slice L n c] w (RoP w (.bool (aK l v kd))):=by
 by_cases e:0<=v
 ·by_cases i:v<(n:Int)
  ·obtain⟨j,rfl⟩:=Int.eq_ofNat_of_zero_le e;obtain⟨x,b⟩:∃x,l[j]? =some x:=⟨l[j]'(by omega),CT _⟩;obtain⟨g,h,rfl,c0,_⟩:=d j x b;rw[iP b];have f:j<n:=by omega
   replace a:=bZ a;clear b d;go_enter Tryz.func77,Tryz.ntmps77;go_wp2_with fail;go_ret;exact⟨rfl,bZ (ad.refl _ _)⟩
  rw[dT (by omega)];replace a:=bZ a;go_enter Tryz.func77,Tryz.ntmps77;go_wp2_with fail;go_ret;exact⟨rfl,bZ (ad.refl _ _)⟩
 rw[dT (by omega)];replace a:=bZ a;go_enter Tryz.func77,Tryz.ntmps77;go_wp2_with fail;go_ret;exact⟨rfl,bZ (ad.refl _ _)⟩
theorem oM (C:Nat->Prop) (e:E) (w:World) (F D:ByteArray) (A:Option Addr) (n c:Nat) (L:Option Addr) (H:Nat) (l:List Vb) (p:Nat) (a:p=l.length) (m:e.ok2=true) (r:aY w C e A n) (y:bR w L l):
 Calls Tryz.prog 26 #[exV e F D A n c,.slice L p H] w (RoP w (.bool (e.text l))):=by
  have h:=r.nlen m;have b:Z (ad [] w (w.alloc (.cells (exC e F D A n c) 26))):=bZ ((ad.refl [] w).alloc _);unfold exC at b;unfold exV;by_cases u:n=0
  ·subst u;obtain⟨o,i,v,rfl⟩:∃o i v,e=.z o i v:=by cases e<;>first | exact⟨_,_,_,rfl⟩ | (simp[E.args] at h;done) | (cases m;done)
   simp only[opz,opa,opb,ixz,ixa,ixb,ltz,lta,ltb] at b ⊢;rw[show (E.z o i v).text l=if o=2 then aK l i 2 else decide (o=1) && decide (v.k=2) from rfl];clear h r m;by_cases d:o=2
   ·subst d;rw[if_pos rfl];by_cases J:0<=i
    ·by_cases q:i<(p:Int)
     ·obtain⟨j,rfl⟩:=Int.eq_ofNat_of_zero_le J;obtain⟨x,t⟩:∃x,l[j]? =some x:=⟨l[j]'(by omega),CT _⟩;have f:=y.keep0 b.o;obtain⟨g,P,rfl,c0,_⟩:=f j x t;rw[iP t];have M:j<p:=by omega
      replace a:=bZ a;clear t y f;go_enter Tryz.func26,Tryz.ntmps26;go_wp2_with fail;go_ret;exact⟨rfl,b⟩
     rw[dT (by omega)];replace a:=bZ a;go_enter Tryz.func26,Tryz.ntmps26;go_wp2_with fail;go_ret;exact⟨rfl,b⟩
    rw[dT (by omega)];replace a:=bZ a;go_enter Tryz.func26,Tryz.ntmps26;go_wp2_with fail;go_ret;exact⟨rfl,b⟩
   rw[if_neg d];have K:(o==2)=false:=beq_false_of_ne d;replace a:=bZ a;cases q:(o==1)
   ·rw[show decide (o=1)=(o==1) from rfl,q];clear d;go_enter Tryz.func26,Tryz.ntmps26;go_wp2_with fail;go_ret;exact⟨rfl,b⟩
   rw[show decide (o=1)=(o==1) from rfl,q];clear d;go_enter Tryz.func26,Tryz.ntmps26;go_wp2_with fail;go_ret;exact⟨rfl,b⟩
  have B:e.text l=false:=by cases e<;>first | rfl | (exact absurd h u)
  rw[B];have N:((n:Int) !=0)=true:=by rw[bne_iff_ne];omega
  have O:(0:Int)<n:=by omega
  replace h:=bZ h;generalize e.op=o at*;generalize e.lit.k=lk at*;generalize e.lit.n=ln at*;generalize e.lit.s=ls at*;generalize e.ix=ix at*;clear r m B u;go_enter Tryz.func26,Tryz.ntmps26;go_wp2_with fail;go_ret;exact⟨rfl,b⟩
def plc (o:Int):Int:=if 10<=o/\o<=15 then o - 10 else -1
theorem yX {K o:Int} (h:(K==o)=true) (a:10<=K/\K<=15):plc o=K - 10:=by have:=beq_iff_eq.1 h;unfold plc;rw[if_pos (by omega)];omega
theorem yY {K o:Int} (h:(K==o)=false):K≠o:=beq_eq_false_iff_ne.1 h
theorem qt (w:World) (o:Int):Calls Tryz.prog 29 #[I o] w (RoP w (I (plc o))):=by
 go_enter Tryz.func29,Tryz.ntmps29;go_wp2_with fail;go_loopw [3] (fun i wr=>∃j:Int,0<=j/\j<=6/\i=I j/\Z (∀m:Int,10<=m->m<10+j->o≠m)/\Z (ad [] w wr)) (fun i _=>6 - (intOf i).toNat)
 case atStart=>exact⟨0,by omega,by omega,rfl,bZ (fun m c=>by omega),bZ (ad.refl _ _)⟩
 case round=>
  obtain⟨j,h,n,rfl,c,f⟩:=hrel;obtain⟨q,e⟩:∃x,x=wr:=⟨_,rfl⟩;subst e;have a:=bZ (f.o.alloc (.cells #[I 10,I 11,I 12,I 13,I 14,I 15] 3));rcases(by omega:j=0\/j=1\/j=2\/j=3\/j=4\/j=5\/j=6) with rfl | rfl | rfl | rfl | rfl | rfl | rfl
  case inr.inr.inr.inr.inr.inr=>
   have d:Z (plc o= -1):=bZ (by
    unfold plc;rw[if_neg];rintro⟨b,g⟩;exact c.o o b (by omega) rfl)
   go_wp2_with fail;go_ret;exact⟨by rw[d.o];rfl,f⟩
  all_goals
   go_wp2_with fail
  all_goals first
   | (have d:=bZ (yX (o:=o) (by assumption))
      go_ret
      exact⟨by rw[d.o (by decide)];rfl,a⟩)
   | (have p:=yY (o:=o) (by assumption)
      refine⟨⟨_,?_,?_,rfl,bZ (fun m b g l=>?_),a⟩,?_⟩
      ·decide
      ·decide
      ·have k:=c.o m b;omega
      ·simp[intOf])
end Go.Proofs.YtldmkbhgdbafhaaGreat
